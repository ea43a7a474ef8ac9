/- joined, no condition of its own. -/
import Derived.Test.YtmdnepkekekncaaGreatJfJ7
set_option linter.unusedVariables false
set_option linter.unusedSimpArgs false
set_option maxRecDepth 100000
set_option maxHeartbeats 12000000
namespace Go.Proofs.YtmdnepkekekncaaGreat
open Go.RowKit
def vE(l:List Int)(k key count arg:Int)(op:Bool):Int:=if JG l k key count=0 then Fh (Ym l k.toNat key (max 1 count) arg op)else 0
def OO(l:List Int)(k key count arg:Int)(op:Bool):Bool:=if JG l k key count=0 then qX (Ym l k.toNat key (max 1 count) arg op)else false
def zi(l:List Int)(k key count arg:Int)(op:Bool):Int:=if JG l k key count=0 then bO (Ym l k.toNat key (max 1 count) arg op)else JG l k key count
def kT(A:Int)(B:Bool)(E:Int)(w:World)(e:Ending)(w':World):Prop:=e=.returned (.tuple #[.int .i64 A,.bool B,.int .i64 E])/\Below w.heap.size w w'
theorem Cw(a:Option Addr)(n c:Nat)(l:List Int)(k key count arg:Int)(op:Bool)(w:World)(hn:l.length=n)(hn2:n<=9223372036854775807)(hk:qg k)(E:Int)(hE:JG l k key count=E)(h0:E≠0):
  Calls Tryz.prog 161 #[.slice a n c,.int .i64 k,Nh key count arg,.bool op] w (kT 0 false E w):=by
 have HE:=Zy hE;have HN:=Zy hn;have h0':(E !=0)=true:=Q7;clear hE hn h0;unfold Nh;have hB:=Za.new w #[.int .i64 key,.int .i64 count,.int .i64 arg] 243;obtain⟨c0,c1,c2,-,-,-⟩:=hB.three;have hacc:=ZR w (.cells #[.int .i64 key,.int .i64 count,.int .i64 arg] 243);go_enter Tryz.func161,Tryz.ntmps161
 go_wp2_with ((go_at_call 173);refine(VZ a n c l k key count arg _ HN.out hn2 hk).mono ?_;rintro e w2 ⟨rfl,hb2⟩;rw[HE.out])
 go_ret3
 exact⟨rfl,ZE hacc QJ hb2⟩
theorem BK(a:Option Addr)(n c:Nat)(l:List Int)(k:Nat)(key arg:Int)(op:Bool)(w:World)(hl:Ints w a l)(hn:l.length=n)(hn2:n<=4096)(hk1:k<=n)(hk2:k<n\/n=0)(hK:Kj key=true)(hE:JG l k key 0=0)
  (r:Option (Int×Bool)) (hr:Ym l k key ((1:Nat):Int) arg op=r):
  Calls Tryz.prog 161 #[.slice a n c,.int .i64 (k:Int),Nh key 0 arg,.bool op] w (kT (Fh r) (qX r) (bO r) w):=by
 have hm0:1<=1:=ZB _;have hm1:1<=999:=QQ;have HE:=Zy hE;have HN:=Zy hn;have HK:=Zy hK;have HR:=Zy hr;have Da:=Zy hk2;clear hE hn hK hr hk2;unfold Nh;have hB:=Za.new w #[.int .i64 key,.int .i64 0,.int .i64 arg] 243;obtain⟨c0,c1,c2,-,-,-⟩:=hB.three;have hacc:=ZR w (.cells #[.int .i64 key,.int .i64 0,.int .i64 arg] 243);have hsz:w.heap.size+1<=(w.alloc (.cells #[.int .i64 key,.int .i64 0,.int .i64 arg] 243)).heap.size:=QJ;cases hF:xu key
 all_goals
  have HF:=Zy hF;clear hF;go_enter Tryz.func161,Tryz.ntmps161
  go_wp2_with (first|((go_at_call 173);refine(VZ a n c l k key 0 arg _ HN.out QQ ⟨QQ,QQ⟩).mono ?_;rintro e w2 ⟨rfl,hb2⟩;rw[HE.out];have hB2:=hB.below hb2 hB.lt;obtain⟨d0,d1,d2,-,-,-⟩:=hB2.three;have Z0:=ZE hacc QQ hb2;have hlt2:=hB2.lt;have hI2:=hl.below Z0)|((go_at_call 174);refine(Kw _ _).mono ?_;rintro e w3 ⟨rfl,rfl⟩;rw[HK.out,HF.out]))
  have hkk:=Da.out;clear hkk;have VR:=(Z0.alloc QQ (.cells #[.slice a n c,.int .i64 (k:Int),.int .i64 1,.bool op] 260)).alloc QY (.cells #[.int .i64 0,.bool false] 262);have Dy:=Za.new (w2.alloc (.cells #[.slice a n c,.int .i64 (k:Int),.int .i64 1,.bool op] 260)) #[.int .i64 0,.bool false] 262;rw[Zu]at Dy;have oI:=hl.below VR
 ·go_wp2_with ((go_at_call 176);refine(xw a n c l k 1 op _ oI HN.out hn2 hk1 Da.out hm0 hm1 key arg HK.out HF.out).mono ?_;rintro e w5 ⟨rfl,hb5⟩;rw[HR.out];have bR:=Dy.below hb5 Dy.lt;obtain⟨s0,s1,s2,s3⟩:=bR.two;have Yw:=ZE VR QY hb5)
  exact QGP
 ·go_wp2_with ((go_at_call 175);refine(yQ a n c l k 1 op _ oI HN.out hn2 hk1 Da.out hm0 hm1 key arg HF.out).mono ?_;rintro e w5 ⟨rfl,hb5⟩;rw[HR.out];have bR:=Dy.below hb5 Dy.lt;obtain⟨s0,s1,s2,s3⟩:=bR.two;have Yw:=ZE VR QY hb5)
  exact QGP
theorem C9(a:Option Addr)(n c:Nat)(l:List Int)(k:Nat)(key arg:Int)(op:Bool)(w:World)(hl:Ints w a l)(hn:l.length=n)(hn2:n<=4096)(hk1:k<=n)(hk2:k<n\/n=0)(hK:Kj key=true)(hE:JG l k key 1=0)
  (r:Option (Int×Bool)) (hr:Ym l k key ((1:Nat):Int) arg op=r):
  Calls Tryz.prog 161 #[.slice a n c,.int .i64 (k:Int),Nh key 1 arg,.bool op] w (kT (Fh r) (qX r) (bO r) w):=by
 have hm0:1<=1:=ZB _;have hm1:1<=999:=QQ;have HE:=Zy hE;have HN:=Zy hn;have HK:=Zy hK;have HR:=Zy hr;have Da:=Zy hk2;clear hE hn hK hr hk2;unfold Nh;have hB:=Za.new w #[.int .i64 key,.int .i64 1,.int .i64 arg] 243;obtain⟨c0,c1,c2,-,-,-⟩:=hB.three;have hacc:=ZR w (.cells #[.int .i64 key,.int .i64 1,.int .i64 arg] 243);have hsz:w.heap.size+1<=(w.alloc (.cells #[.int .i64 key,.int .i64 1,.int .i64 arg] 243)).heap.size:=QJ;cases hF:xu key
 all_goals
  have HF:=Zy hF;clear hF;go_enter Tryz.func161,Tryz.ntmps161
  go_wp2_with (first|((go_at_call 173);refine(VZ a n c l k key 1 arg _ HN.out QQ ⟨QQ,QQ⟩).mono ?_;rintro e w2 ⟨rfl,hb2⟩;rw[HE.out];have hB2:=hB.below hb2 hB.lt;obtain⟨d0,d1,d2,-,-,-⟩:=hB2.three;have Z0:=ZE hacc QQ hb2;have hlt2:=hB2.lt;have hI2:=hl.below Z0)|((go_at_call 174);refine(Kw _ _).mono ?_;rintro e w3 ⟨rfl,rfl⟩;rw[HK.out,HF.out]))
  have hkk:=Da.out;clear hkk;have VR:=(Z0.alloc QQ (.cells #[.slice a n c,.int .i64 (k:Int),.int .i64 1,.bool op] 260)).alloc QY (.cells #[.int .i64 0,.bool false] 262);have Dy:=Za.new (w2.alloc (.cells #[.slice a n c,.int .i64 (k:Int),.int .i64 1,.bool op] 260)) #[.int .i64 0,.bool false] 262;rw[Zu]at Dy;have oI:=hl.below VR
 ·go_wp2_with ((go_at_call 176);refine(xw a n c l k 1 op _ oI HN.out hn2 hk1 Da.out hm0 hm1 key arg HK.out HF.out).mono ?_;rintro e w5 ⟨rfl,hb5⟩;rw[HR.out];have bR:=Dy.below hb5 Dy.lt;obtain⟨s0,s1,s2,s3⟩:=bR.two;have Yw:=ZE VR QY hb5)
  exact QGP
 ·go_wp2_with ((go_at_call 175);refine(yQ a n c l k 1 op _ oI HN.out hn2 hk1 Da.out hm0 hm1 key arg HF.out).mono ?_;rintro e w5 ⟨rfl,hb5⟩;rw[HR.out];have bR:=Dy.below hb5 Dy.lt;obtain⟨s0,s1,s2,s3⟩:=bR.two;have Yw:=ZE VR QY hb5)
  exact QGP
theorem C8(a:Option Addr)(n c:Nat)(l:List Int)(k m:Nat)(key arg:Int)(op:Bool)(w:World)(hl:Ints w a l)(hn:l.length=n)(hn2:n<=4096)(hk1:k<=n)(hk2:k<n\/n=0)(hm2:2<=m)(hm1:m<=999)(hK:Kj key=true)(hE:JG l k key (m:Int)=0)
  (r:Option (Int×Bool)) (hr:Ym l k key (m:Int) arg op=r):
  Calls Tryz.prog 161 #[.slice a n c,.int .i64 (k:Int),Nh key (m:Int) arg,.bool op] w (kT (Fh r) (qX r) (bO r) w):=by
 have hm0:1<=m:=QQ;have HE:=Zy hE;have HN:=Zy hn;have HK:=Zy hK;have HR:=Zy hr;have Da:=Zy hk2;clear hE hn hK hr hk2;unfold Nh;have hB:=Za.new w #[.int .i64 key,.int .i64 (m:Int),.int .i64 arg] 243;obtain⟨c0,c1,c2,-,-,-⟩:=hB.three;have hacc:=ZR w (.cells #[.int .i64 key,.int .i64 (m:Int),.int .i64 arg] 243);have hsz:w.heap.size+1<=(w.alloc (.cells #[.int .i64 key,.int .i64 (m:Int),.int .i64 arg] 243)).heap.size:=QJ;cases hF:xu key
 all_goals
  have HF:=Zy hF;clear hF;go_enter Tryz.func161,Tryz.ntmps161
  go_wp2_with (first|((go_at_call 173);refine(VZ a n c l k key (m:Int) arg _ HN.out QQ ⟨QQ,QQ⟩).mono ?_;rintro e w2 ⟨rfl,hb2⟩;rw[HE.out];have hB2:=hB.below hb2 hB.lt;obtain⟨d0,d1,d2,-,-,-⟩:=hB2.three;have Z0:=ZE hacc QQ hb2;have hlt2:=hB2.lt;have hI2:=hl.below Z0)|((go_at_call 174);refine(Kw _ _).mono ?_;rintro e w3 ⟨rfl,rfl⟩;rw[HK.out,HF.out]))
  have hkk:=Da.out;clear hkk;have VR:=(Z0.alloc QQ (.cells #[.slice a n c,.int .i64 (k:Int),.int .i64 (m:Int),.bool op] 260)).alloc QY (.cells #[.int .i64 0,.bool false] 262);have Dy:=Za.new (w2.alloc (.cells #[.slice a n c,.int .i64 (k:Int),.int .i64 (m:Int),.bool op] 260)) #[.int .i64 0,.bool false] 262;rw[Zu]at Dy;have oI:=hl.below VR
 ·go_wp2_with ((go_at_call 176);refine(xw a n c l k m op _ oI HN.out hn2 hk1 Da.out hm0 hm1 key arg HK.out HF.out).mono ?_;rintro e w5 ⟨rfl,hb5⟩;rw[HR.out];have bR:=Dy.below hb5 Dy.lt;obtain⟨s0,s1,s2,s3⟩:=bR.two;have Yw:=ZE VR QY hb5)
  exact QGP
 ·go_wp2_with ((go_at_call 175);refine(yQ a n c l k m op _ oI HN.out hn2 hk1 Da.out hm0 hm1 key arg HF.out).mono ?_;rintro e w5 ⟨rfl,hb5⟩;rw[HR.out];have bR:=Dy.below hb5 Dy.lt;obtain⟨s0,s1,s2,s3⟩:=bR.two;have Yw:=ZE VR QY hb5)
  exact QGP
theorem yg{l:List Int}{k key count:Int}(h:JG l k key count=0):l.length<=4096/\0<=k/\(k<l.length\/k=0)/\0<=count/\count<=999/\Kj key=true:=by
 unfold JG at h;split at h
 ·simp at h
 ·split at h
  ·simp at h
  ·split at h
   ·exact⟨QQ,QQ,QQ,QQ,QQ,QI⟩
   ·simp at h
theorem WM(a:Option Addr)(n c:Nat)(l:List Int)(k key count arg:Int)(op:Bool)(w:World)(hl:Ints w a l)(hn:l.length=n)(hn2:n<=9223372036854775807)(hk:qg k):
  Calls Tryz.prog 161 #[.slice a n c,.int .i64 k,Nh key count arg,.bool op] w (kT (vE l k key count arg op) (OO l k key count arg op) (zi l k key count arg op) w):=by
 by_cases hE:JG l k key count=0
 ·obtain⟨h1,h2,h3,h4,h5,h6⟩:=yg hE
  rw[vE,OO,zi,if_pos hE,if_pos hE,if_pos hE];obtain⟨k,rfl⟩:=Zw h2;obtain⟨m,rfl⟩:=Zw h4;rw[XK];rcases(show m=0\/m=1\/2<=m from QQ)with rfl|rfl|hm
  ·exact BK a n c l k key arg op w hl hn QQ QQ QQ h6 hE _ rfl
  ·exact C9 a n c l k key arg op w hl hn QQ QQ QQ h6 hE _ rfl
  ·rw[show max 1 (m:Int)=(m:Int)from QQ]
   exact C8 a n c l k m key arg op w hl hn QQ QQ QQ hm QQ h6 hE _ rfl
 ·rw[vE,OO,zi,if_neg hE,if_neg hE,if_neg hE]
  exact Cw a n c l k key count arg op w hn hn2 hk _ rfl hE
def TJ(l:List Int)(k key count arg:Int):Int:=if zi l k key count arg true=0 then min k (vE l k key count arg true)else 0
def fA(l:List Int)(k key count arg:Int):Int:=if zi l k key count arg true=0 then max k (vE l k key count arg true)+(if OO l k key count arg true then 1 else 0)else 0
def PV(F T E:Int)(w:World)(e:Ending)(w':World):Prop:=e=.returned (.tuple #[.int .i64 F,.int .i64 T,.int .i64 E])/\Below w.heap.size w w'
theorem Ff(a:Option Addr)(n c:Nat)(l:List Int)(k key count arg:Int)(w:World)(hl:Ints w a l)(hn:l.length=n)(hn2:n<=9223372036854775807)(hk:qg k)(hA:qg (vE l k key count arg true+1))(hk3:zi l k key count arg true=0->k<=4096):
  Calls Tryz.prog 162 #[.slice a n c,.int .i64 k,Nh key count arg] w (PV (TJ l k key count arg) (fA l k key count arg) (zi l k key count arg true) w):=by
 have hF:TJ l k key count arg=if zi l k key count arg true=0 then min k (vE l k key count arg true)else 0:=rfl
 have hT:fA l k key count arg=if zi l k key count arg true=0 then max k (vE l k key count arg true)+(if OO l k key count arg true then 1 else 0)else 0:=rfl
 obtain⟨A,hA2⟩:∃A,vE l k key count arg true=A:=⟨_,rfl⟩;obtain⟨B,hB2⟩:∃B,OO l k key count arg true=B:=⟨_,rfl⟩;obtain⟨E,hE2⟩:∃E,zi l k key count arg true=E:=⟨_,rfl⟩;rw[hA2,hB2,hE2]at hT;rw[hA2,hE2]at hF;rw[hE2]at hk3 ⊢;rw[hA2]at hA;obtain⟨a1,a2⟩:=hA;obtain⟨k1,k2⟩:=hk;have HA:=Zy hA2;have HB:=Zy hB2;have HE:=Zy hE2;have HN:=Zy hn;clear hA2 hB2 hE2 hn;unfold Nh;have hB:=Za.new w #[.int .i64 key,.int .i64 count,.int .i64 arg] 243;obtain⟨c0,c1,c2,-,-,-⟩:=hB.three;have hacc:=ZR w (.cells #[.int .i64 key,.int .i64 count,.int .i64 arg] 243);have hI:=hl.below hacc;by_cases h0:E=0
 ·rw[if_pos h0]at hF hT
  have hk4:=hk3 h0;subst h0;rcases(show k<=A\/A<k from QQ)with h1|h1
  ·rw[show min k A=k from QQ]at hF
   rw[show max k A=A from QQ]at hT;exact QG3
  ·rw[show min k A=A from QQ]at hF
   rw[show max k A=k from QQ]at hT;exact QG3
 ·rw[if_neg h0]at hF hT
  have HF:=Zy hF;have HT:=Zy hT;have h0':(E !=0)=true:=Q7;clear hF hT h0 hk3;go_enter Tryz.func162,Tryz.ntmps162
  go_wp2_with ((go_at_call 161);refine(WM a n c l k key count arg true _ hI HN.out hn2 ⟨k1,k2⟩).mono ?_;rintro e w2 ⟨rfl,hb2⟩;rw[HA.out,HB.out,HE.out])
  go_ret3
  rw[HF.out,HT.out];exact⟨rfl,ZE hacc QJ hb2⟩
def lnE(n:Nat)(k:Int):Int:=if 200<n then 2 else if k<0\/(0<k/\(n:Int)<=k)then 1 else 0
theorem Oh(a:Option Addr)(n c:Nat)(k:Int)(w:World):
  Calls Tryz.prog 144 #[.agg #[.slice a n c,.int .i64 k]] w fun e w'=>e=.returned (.int .i64 (lnE n k))/\Below w.heap.size w w':=by
 have hA:=Za.new w #[.slice a n c,.int .i64 k] 42;have hacc:=ZR w (.cells #[.slice a n c,.int .i64 k] 42);have HE:=Zy (show lnE n k=if 200<n then 2 else if k<0\/(0<k/\(n:Int)<=k)then 1 else 0 from rfl);go_enter Tryz.func144,Tryz.ntmps144
 go_upto_region 1 with fail
 generalize w.alloc (.cells #[.slice a n c,.int .i64 k] 42)=w1 at *;obtain⟨c0,c1,-,-⟩:=hA.two;by_cases h1:200<n
 ·have i1:(200:Int)<(n:Int):=by omega
  go_wp2;go_ret;refine⟨?_,hacc⟩;rw[HE.out,if_pos h1];rfl
 ·have i1:¬(200:Int)<(n:Int):=by omega
  by_cases h2:k<0
  ·go_wp2
   go_ret;refine⟨?_,hacc⟩;rw[HE.out,if_neg h1,if_pos (.inl h2)];rfl
  ·by_cases hn:n=0
   ·subst hn
    have i2:0<=k:=QQ;by_cases h3:0<k
    ·go_wp2
     go_ret;refine⟨?_,hacc⟩;rw[HE.out,if_neg QQ,if_pos QQ];rfl
    ·go_wp2
     go_ret;refine⟨?_,hacc⟩;rw[HE.out,if_neg QQ,if_neg QQ];rfl
   ·have i2:0<=k:=by omega
    have iw:IntKind.i64.wrap ((n:Int)-1)=(n:Int)-1:=QDJ;obtain⟨m,rfl⟩:∃m,n=m+1:=⟨n-1,QQ⟩;by_cases h3:((m:Int))<k
    ·have i3:(((m+1:Nat):Int)-1)<k:=by omega
     have i4:(0:Int)<=((m+1:Nat):Int)-1:=QQ;go_wp2
     all_goals
      go_ret;refine⟨?_,hacc⟩;rw[HE.out,if_neg h1,if_pos QQ];first|rfl|skip
    ·have i3:¬(((m+1:Nat):Int)-1)<k:=by omega
     have i4:(0:Int)<=((m+1:Nat):Int)-1:=QQ;go_wp2
     all_goals
      go_ret;refine⟨?_,hacc⟩;rw[HE.out,if_neg h1,if_neg QQ];first|rfl|skip
def Hw(k n:Int):Int:=max 0 (min k (n-1))
theorem qz(k n:Int)(w:World)(h0: -4096<=k)(h1:k<=4096)(h2:0<=n)(h3:n<=4096):
  Calls Tryz.prog 166 #[.int .i64 k,.int .i64 n] w fun e w'=>e=.returned (.int .i64 (Hw k n))/\w=w':=by
 by_cases a:k<n-1
 ·by_cases b:0<k
  ·go_enter Tryz.func166,Tryz.ntmps166
   exact QHc
  ·go_enter Tryz.func166,Tryz.ntmps166
   exact QHc
 ·by_cases b:0<n-1
  ·go_enter Tryz.func166,Tryz.ntmps166
   exact QHc
  ·go_enter Tryz.func166,Tryz.ntmps166
   exact QHc
def ql(c:Int):Int:=if 97<=c/\c<=122 then c-32 else if 65<=c/\c<=90 then c+32 else c
theorem QUQ:∀c:Fin 58,bits BinOp.xor IntKind.i64 ((c.val+65:Nat):Int) 32=ql ((c.val+65:Nat):Int)\/(26<=c.val/\c.val<32):=QDT
theorem MW(c:Int)(w:World):
  Calls Tryz.prog 165 #[.int .i64 c] w fun e w'=>e=.returned (.int .i64 (ql c))/\w=w':=by
 have HT:=Zy (show ql c=if 97<=c/\c<=122 then c-32 else if 65<=c/\c<=90 then c+32 else c from rfl);by_cases h:(97<=c/\c<=122)\/(65<=c/\c<=90)
 ·have hx:bits BinOp.xor IntKind.i64 c 32=ql c:=by
   have:=QUQ ⟨(c-65).toNat,QQ⟩;have e:((((c-65).toNat+65:Nat)):Int)=c:=QQ;simp only[e]at this;rcases this with h1|h1
   ·exact h1
   ·omega
  have HX:=Zy hx;clear hx;go_enter Tryz.func165,Tryz.ntmps165
  go_wp2
  all_goals
   first
    | (exfalso;omega)
    | (go_ret;refine⟨XE ?_,rfl⟩;exact HX.out)
 ·go_enter Tryz.func165,Tryz.ntmps165
  go_wp2
  all_goals
   first
    | (exfalso;omega)
    | (go_ret;refine⟨XE ?_,rfl⟩;rw[HT.out,if_neg QQ,if_neg QQ])
def bt(s:ByteArray)(j:Nat):Int:=((s.data.toList.getD j 0).toNat:Int)
theorem Uf(s:ByteArray)(j:Nat):0<=bt s j/\bt s j<=255:=by
 unfold bt;have:=(s.data.toList.getD j 0).toNat_lt;omega
theorem MB(w:World)(e:TypeId)(s:ByteArray):Below w.heap.size w (Lib.bytesWorld w e s):=
 ⟨rfl,rfl,rfl,by rw[Lib.bytesWorld_size];omega,fun k hk=>Lib.bytesWorld_at_old w e s k hk⟩
def DZ(c:Int):Bool:=decide ((97<=c/\c<=122)\/(65<=c/\c<=90))
theorem zW(c:Int)(w:World):Calls Tryz.prog 124 #[.int .i64 c] w fun e w'=>e=.returned (.bool (DZ c))/\w=w':=by
 go_enter Tryz.func124,Tryz.ntmps124
 go_wp2
 all_goals
  go_ret;exact⟨Xg (by rw[Bool.eq_iff_iff];simp[DZ];omega),rfl⟩
def Rq(c:Int):Bool:=decide (c=100\/c=99\/c=121)
theorem WV(c:Int)(w:World):Calls Tryz.prog 125 #[.int .i64 c] w fun e w'=>e=.returned (.bool (Rq c))/\w=w':=by
 go_enter Tryz.func125,Tryz.ntmps125
 go_wp2
 all_goals
  go_ret;exact⟨Xg (by rw[Bool.eq_iff_iff];simp[Rq, *]),rfl⟩
def Ml(n key:Int):Bool:=decide ((49<=key/\key<=57)\/(key=48/\0<n))
def moB(key:Int):Bool:=decide (key=104\/key=108\/key=48\/key=94\/key=36\/key=124\/key=119\/key=87\/key=98\/key=66\/key=101\/key=69\/key=37\/key=59\/key=44)
def zA(key:Int):Bool:=decide (key=102\/key=70\/key=116\/key=84)
def vB(key:Int):Bool:=decide (key=105\/key=97)
def obB(key:Int):Bool:=decide (key=119\/key=87\/key=40\/key=41\/key=91\/key=93\/key=123\/key=125\/key=34\/key=39\/key=96)
def plB(key:Int):Bool:=decide (key=73\/key=65\/key=115\/key=83\/key=67\/key=68\/key=120\/key=88\/key=112\/key=80\/key=89\/key=126\/key=117\/key=85\/key=46\/key=106\/key=107\/key=71\/key=47\/key=63\/key=110\/key=78\/key=82)
def yX(f o s:Int):Bool:=decide (0<=f/\f<=999/\0<=s/\s<=999/\(o≠0\/s=0))
def BX(r o:Int):Bool:=(decide (r=0) || DZ r)&&(decide (o=0) || Rq o)
def uB(r o wt:Int):Bool:=decide (wt=0) || zA wt || decide (wt=114/\o=0) || decide (wt=34/\o=0/\r=0) || (vB wt&&decide (o≠0))
def Yl(f r o s wt:Int):Int:=if(yX f o s&&BX r o&&uB r o wt)=true then 0 else 1
theorem Za.five{w:World}{B:Nat}{u0 u1 u2 u3 u4:Value}{e:TypeId}(h:Za w B #[u0,u1,u2,u3,u4] e):
  w.cell? ⟨B,0,none⟩=some u0/\w.cell? ⟨B,1,none⟩=some u1/\w.cell? ⟨B,2,none⟩=some u2/\w.cell? ⟨B,3,none⟩=some u3/\w.cell? ⟨B,4,none⟩=some u4:=⟨h.cell 0,h.cell 1,h.cell 2,h.cell 3,h.cell 4⟩
theorem Za.Z7{w:World}{B:Nat}{u0 u1 u2 u3 u4:Value}{e:TypeId}(h:Za w B #[u0,u1,u2,u3,u4] e):
  w.frozen? ⟨B,0,none⟩=false/\w.frozen? ⟨B,1,none⟩=false/\w.frozen? ⟨B,2,none⟩=false/\w.frozen? ⟨B,3,none⟩=false/\w.frozen? ⟨B,4,none⟩=false:=⟨h.free 0,h.free 1,h.free 2,h.free 3,h.free 4⟩
theorem Qx5(a b:Int):(a==b)=decide (a=b):=by rw[Bool.eq_iff_iff];simp
theorem zOf(a b:Int):∃z,(a==b)=z:=⟨_,rfl⟩
theorem YG(f r o s wt:Int)(w:World):
  Calls Tryz.prog 85 #[.agg #[.int .i64 f,.int .i64 r,.int .i64 o,.int .i64 s,.int .i64 wt]] w fun e w'=>e=.returned (.int .i64 (Yl f r o s wt))/\Below w.heap.size w w':=by
 have hA:=Za.new w #[.int .i64 f,.int .i64 r,.int .i64 o,.int .i64 s,.int .i64 wt] 44;have hacc:=ZR w (.cells #[.int .i64 f,.int .i64 r,.int .i64 o,.int .i64 s,.int .i64 wt] 44);obtain⟨b1,hb1⟩:∃b1,yX f o s=b1:=⟨_,rfl⟩;obtain⟨b2,hb2⟩:∃b2,BX r o=b2:=⟨_,rfl⟩;have HE:=Zy (show Yl f r o s wt=if(b1&&b2&&uB r o wt)=true then 0 else 1 by unfold Yl;rw[hb1,hb2]);have HB1:=Zy hb1;have HB2:=Zy hb2;clear hb1 hb2;go_enter Tryz.func85,Tryz.ntmps85
 go_upto_region 1 with fail
 generalize w.alloc (.cells #[.int .i64 f,.int .i64 r,.int .i64 o,.int .i64 s,.int .i64 wt] 44)=w1 at *;obtain⟨c0,c1,c2,c3,c4⟩:=hA.five
 go_cut [30] (fun v wx=>v=.bool (!b1)/\w1=wx)
 case first=>
  obtain⟨zo,ho⟩:=zOf o 0;rcases zo with _|_
  all_goals
   go_wp2
   all_goals
    go_meet;refine⟨XD Value.bool ?_,rfl⟩;rw[<-HB1.out];simp at ho;rw[Bool.eq_iff_iff];simp[yX];omega
 obtain⟨rfl,rfl⟩:=hcut;rcases b1 with _|_
 ·go_wp2
  go_ret;exact⟨XE (by rw[HE.out];rfl),hacc⟩
 go_upto_region 3 with fail
 go_cut [50] (fun v wx=>v=.bool (!b2)/\w1=wx)
 case first=>
  obtain⟨zo,ho⟩:=zOf o 0;obtain⟨zr,hr⟩:=zOf r 0;have ho2:(o !=0)=!zo:=by rw[bne,ho]
  have hr2:(r !=0)=!zr:=by rw[bne,hr]
  rcases zo with _|_<;>rcases zr with _|_
  all_goals
   go_wp2_with (first|(go_at_call 124;refine(zW _ _).mono ?_;rintro e w' ⟨rfl,rfl⟩)|(go_at_call 125;refine(WV _ _).mono ?_;rintro e w' ⟨rfl,rfl⟩))
   all_goals
    go_meet;refine⟨XD Value.bool ?_,rfl⟩;rw[<-HB2.out];simp at ho hr;simp[BX, *]
 obtain⟨rfl,rfl⟩:=hcut;rcases b2 with _|_
 ·go_wp2
  go_ret;exact⟨XE (by rw[HE.out];rfl),hacc⟩
 go_wp2
 all_goals
  go_ret;refine⟨XE ?_,hacc⟩
  go_light
  rw[HE.out];simp only[beq_iff_eq,XX,bne_iff_ne,bne_eq_false_iff_eq,ne_eq]at *;simp[uB,zA,vB];omega
def Jw(f r o s key:Int):Int:=
 if Ml (if o≠0 then s else f) key=true then 1 else if Rq key=true then 3 else if moB key=true then 5 else if zA key=true then 4
 else if vB key=true then(if o≠0 then 8 else 6)else if o≠0 then 0
 else if key=34 then(if r≠0 then 0 else 2)else if key=114 then 7 else if plB key=true then 6 else 0
def Wo(f s:Int):Int:=if f=0 then s else if s=0 then f else min 999 (f*s)
def Ue(n key:Int):Int:=min 999 (10*n+key-48)
structure TK where
 q0:Int
 q1:Int
 q2:Int
 q3:Int
 q4:Int
 c0:Int
 c1:Int
 c2:Int
 c3:Int
 c4:Int
 how:Int
deriving DecidableEq
def TK.wrong:TK:=⟨0,0,0,0,0,0,0,0,0,0,3⟩
def TK.done(f r o s verb arg:Int):TK:=⟨0,0,0,0,0,Wo f s,r,o,verb,arg,2⟩
def TK.more(f r o s wt:Int):TK:=⟨f,r,o,s,wt,0,0,0,0,0,1⟩
def VW(f r o s wt key:Int):TK:=
 if wt=34 then(if DZ key=true then TK.more f key o s 0 else TK.wrong)
 else if vB wt=true then(if obB key=true then TK.done f r o s wt key else TK.wrong)
 else TK.done f r o s wt key
def YV(f r o s wt key:Int):TK:=
 if key<32\/key=127 then TK.wrong
 else if wt≠0 then VW f r o s wt key
 else if Jw f r o s key=1 then(if o≠0 then TK.more f r o (Ue s key) 0 else TK.more (Ue f key) r o s 0)
 else if Jw f r o s key=2\/Jw f r o s key=4\/Jw f r o s key=7\/Jw f r o s key=8 then TK.more f r o s key
 else if Jw f r o s key=3 then(if o=0 then TK.more f r key s 0 else if o≠key then TK.wrong else TK.done f r o s key 0)
 else if Jw f r o s key=5\/Jw f r o s key=6 then TK.done f r o s key 0
 else TK.wrong
def TK.q(t:TK):Value:=.agg #[.int .i64 t.q0,.int .i64 t.q1,.int .i64 t.q2,.int .i64 t.q3,.int .i64 t.q4]
def TK.c(t:TK):Value:=.agg #[.int .i64 t.c0,.int .i64 t.c1,.int .i64 t.c2,.int .i64 t.c3,.int .i64 t.c4]
def XF(t:TK)(er:Int)(w:World)(e:Ending)(w':World):Prop:=e=.returned (.tuple #[t.q,t.c,.int .i64 t.how,.int .i64 er])/\Below w.heap.size w w'
theorem Jb{f r o s wt:Int}(h:Yl f r o s wt=0):0<=f/\f<=999/\0<=s/\s<=999/\(o=0\/o=100\/o=99\/o=121):=by
 unfold Yl at h;split at h
 ·rename_i h'
  simp[yX,BX,Rq]at h';omega
 ·simp at h
theorem gM{f s:Int}(h1:0<=f)(h2:f<=999)(h3:0<=s)(h4:s<=999):0<=f*s/\f*s<=998001:=by
 constructor
 ·exact Int.mul_nonneg h1 h3
 ·have:f*s<=999*999:=Int.mul_le_mul h2 h4 h3 QQ
  omega
theorem Nr(f r o s wt:Int)(w:World)(h1:0<=f)(h2:f<=999)(h3:0<=s)(h4:s<=999):
  Calls Tryz.prog 126 #[.agg #[.int .i64 f,.int .i64 r,.int .i64 o,.int .i64 s,.int .i64 wt]] w fun e w'=>e=.returned (.int .i64 (Wo f s))/\Below w.heap.size w w':=by
 have hA:=Za.new w #[.int .i64 f,.int .i64 r,.int .i64 o,.int .i64 s,.int .i64 wt] 44;have hacc:=ZR w (.cells #[.int .i64 f,.int .i64 r,.int .i64 o,.int .i64 s,.int .i64 wt] 44);obtain⟨m1,m2⟩:=gM h1 h2 h3 h4;obtain⟨c0,c1,c2,c3,c4⟩:=hA.five;by_cases hf:f=0
 ·have HF:=Zy (show Wo f s=s by simp[Wo,hf])
  have g1:(f==0)=true:=QEB;clear hf;exact QIw
 ·have g1:(f==0)=false:=by simpa using hf
  by_cases hs:s=0
  ·have HF:=Zy (show Wo f s=f by simp[Wo,hf,hs])
   have g2:(s==0)=true:=by simpa using hs
   clear hf hs;exact QIw
  ·have HF:=Zy (show Wo f s=min 999 (f*s) by simp[Wo,hf,hs])
   have g2:(s==0)=false:=by simpa using hs
   clear hf hs;go_enter Tryz.func126,Tryz.ntmps126
   go_wp2
   all_goals
    go_ret;refine⟨XE ?_,hacc⟩;rw[HF.out];omega
theorem y9(n key:Int)(w:World)(h1:0<=n)(h2:n<=999)(h3:48<=key)(h4:key<=57):
  Calls Tryz.prog 88 #[.int .i64 n,.int .i64 key] w fun e w'=>e=.returned (.int .i64 (Ue n key))/\w=w':=by
 go_enter Tryz.func88,Tryz.ntmps88
 go_wp2
 all_goals
  go_ret;refine⟨XE ?_,rfl⟩;unfold Ue;omega
def QZu(a b c d g:Int)(w:World)(e:Ending)(w':World):Prop:=e=.returned (.agg #[.int .i64 a,.int .i64 b,.int .i64 c,.int .i64 d,.int .i64 g])/\Below w.heap.size w w'
theorem Za.xX{w:World}{B:Nat}{u0 u1 u2 u3 u4:Value}{e:TypeId}(h:Za w B #[u0,u1,u2,u3,u4] e)(x0 x1 x2 x3 x4:Value):
  Za (((((w.setCell ⟨B,0,none⟩ x0).setCell ⟨B,1,none⟩ x1).setCell ⟨B,2,none⟩ x2).setCell ⟨B,3,none⟩ x3).setCell ⟨B,4,none⟩ x4) B #[x0,x1,x2,x3,x4] e:=
 ((((h.set 0 x0).set 1 x1).set 2 x2).set 3 x3).set 4 x4
theorem Yg{N B:Nat}{a w:World}(h:Below N a w)(hB:N<=B){x0 x1 x2 x3 x4:Value}:
  Below N a (((((w.setCell ⟨B,0,none⟩ x0).setCell ⟨B,1,none⟩ x1).setCell ⟨B,2,none⟩ x2).setCell ⟨B,3,none⟩ x3).setCell ⟨B,4,none⟩ x4):=
 ((((h.setCell (p:=⟨B,0,none⟩) hB _).setCell (p:=⟨B,1,none⟩) hB _).setCell (p:=⟨B,2,none⟩) hB _).setCell (p:=⟨B,3,none⟩) hB _).setCell (p:=⟨B,4,none⟩) hB _
theorem G7{w w':World}(h:Below w.drew.heap.size w.drew w'):Below w.heap.size w w':=⟨h.os,h.tape,h.output,h.size,h.block⟩
theorem UZ(f r o s wt verb arg:Int)(w:World)(h1:0<=f)(h2:f<=999)(h3:0<=s)(h4:s<=999):
  Calls Tryz.prog 89 #[.agg #[.int .i64 f,.int .i64 r,.int .i64 o,.int .i64 s,.int .i64 wt],.int .i64 verb,.int .i64 arg] w (QZu (Wo f s) r o verb arg w):=by
 have hA:=(Za.new w #[.int .i64 f,.int .i64 r,.int .i64 o,.int .i64 s,.int .i64 wt] 44).alloc (.cells #[.int .i64 0,.int .i64 0,.int .i64 0,.int .i64 0,.int .i64 0] 39);have hB:=Za.new (w.alloc (.cells #[.int .i64 f,.int .i64 r,.int .i64 o,.int .i64 s,.int .i64 wt] 44)) #[.int .i64 0,.int .i64 0,.int .i64 0,.int .i64 0,.int .i64 0] 39;rw[Zu]at hB;have hacc:=Zo w (.cells #[.int .i64 f,.int .i64 r,.int .i64 o,.int .i64 s,.int .i64 wt] 44) (.cells #[.int .i64 0,.int .i64 0,.int .i64 0,.int .i64 0,.int .i64 0] 39);go_enter Tryz.func89,Tryz.ntmps89
 go_upto_region 1 with fail
 generalize(w.alloc (.cells #[.int .i64 f,.int .i64 r,.int .i64 o,.int .i64 s,.int .i64 wt] 44)).alloc (.cells #[.int .i64 0,.int .i64 0,.int .i64 0,.int .i64 0,.int .i64 0] 39)=w1 at *;obtain⟨c0,c1,c2,c3,c4⟩:=hA.five;obtain⟨d0,d1,d2,d3,d4⟩:=hB.five;obtain⟨e0,e1,e2,e3,e4⟩:=hB.Z7
 go_region_law ((go_simp;go_at_call 126;refine(Nr _ _ _ _ _ _ h1 h2 h3 h4).mono ?_;rintro e w9 ⟨rfl,hb⟩;have qV:=hA.drew.below hb hA.lt;have U7:=hB.drew.below hb hB.lt;obtain⟨k0,k1,k2,k3,k4⟩:=qV.five;obtain⟨l0,l1,l2,l3,l4⟩:=U7.five;obtain⟨m0,m1,m2,m3,m4⟩:=U7.Z7))
 all_goals
  have lK:=ZE hacc hacc.size (G7 hb);obtain⟨y0,y1,y2,y3,y4⟩:=(U7.xX (.int .i64 (Wo f s)) (.int .i64 r) (.int .i64 o) (.int .i64 verb) (.int .i64 arg)).five;go_simp;go_wp2;exact ZC (v:=.agg #[.int .i64 (Wo f s),.int .i64 r,.int .i64 o,.int .i64 verb,.int .i64 arg]) (by simp[results,Tryz.results89,go_sem,y0,y1,y2,y3,y4]) rfl ⟨rfl,Yg lK QQ⟩
theorem iE:(Tryz.prog.info? 39).map (fun i=>(i.zero,i.size,i.bytes))=some (some (.agg #[.int .i64 0,.int .i64 0,.int .i64 0,.int .i64 0,.int .i64 0]),5,40):=QX
structure C5 where
 a:Int
 b:Int
 c:Int
 d:Int
 e:Int
def C5.cells(s:C5):List Value:=[.int .i64 s.a,.int .i64 s.b,.int .i64 s.c,.int .i64 s.d,.int .i64 s.e]
def C5.v(s:C5):Value:=.agg #[.int .i64 s.a,.int .i64 s.b,.int .i64 s.c,.int .i64 s.d,.int .i64 s.e]
def KY(base:Nat)(w:World)(v:Value)(es:List C5):Prop:=
 w.ownsRow base 39 5 v es.length (es.flatMap C5.cells)
def Db(w:World)(a:Option Addr)(es:List C5):Prop:=
 es=[]\/∃b o,a=some ⟨b,o,none⟩/\∀i (h:i<es.length) j v,(es[i].cells)[j]? =some v->w.cell? ⟨b,o+(i*5+j),none⟩=some v
theorem Db.keep{w w':World}{a:Option Addr}{es:List C5}(h:Db w a es)(hc:∀p v,w.cell? p=some v->w'.cell? p=some v):Db w' a es:=by
 rcases h with h|⟨b,o,rfl,h⟩
 ·exact .inl h
 ·exact .inr ⟨b,o,rfl,fun i hi j v hj=>hc _ _ (h i hi j v hj)⟩
theorem Db.below{w w':World}{a:Option Addr}{es:List C5}(h:Db w a es)(hb:Below w.heap.size w w'):Db w' a es:=h.keep (Zd hb)
theorem KY.nil(base:Nat)(w:World):KY base w (.slice none 0 0) []:=Yu _ _ _ _
theorem KY.alloc{base:Nat}{w:World}{v:Value}{es:List C5}(h:KY base w v es)(o:Obj):KY base (w.alloc o) v es:=World.ownsRow.alloc h o
theorem KY.drew{base:Nat}{w:World}{v:Value}{es:List C5}(h:KY base w v es):KY base w.drew v es:=h
theorem KY.mono{base base':Nat}{w:World}{v:Value}{es:List C5}(h:KY base w v es)(hb:base'<=base):KY base' w v es:=by
 exact QHX
theorem KY.kept{base:Nat}{w w':World}{v:Value}{es:List C5}(h:KY base w v es)(hb:Below w.heap.size w w'):KY base w' v es:=by
 exact QHI
theorem KY.row{base:Nat}{w:World}{v:Value}{es:List C5}(h:KY base w v es):∀k,v.ownBlock=some k->base<=k:=fun k hk=>(XC h k hk).1
theorem KY.form{base:Nat}{w:World}{v:Value}{es:List C5}(h:KY base w v es):∃a c,v=.slice a es.length c/\es.length<=c/\c<=9223372036854775807/\(a=none->es.length=0):=by
 rcases h.2 with⟨rfl,h0⟩|⟨g,cap,cur,rfl,hb',hgg,hn,hm,rest⟩
 ·exact⟨none,0,by rw[h0],QQ,QQ,fun _=>h0⟩
 ·exact⟨_,cap,rfl,hn,QC8,QJ⟩
theorem KY.XP{base:Nat}{w:World}{v:Value}{es:List C5}{e':TypeId}{B:Nat}{cs:Array Value}(h:KY base w v es)(hB:Za w B cs e')(he:39≠e'):some B≠v.ownBlock:=by
 exact QGd
theorem mG(us:List C5):∀(i:Nat) (h:i<us.length) (j:Nat),j<5->(us.flatMap C5.cells)[i*5+j]? =(us[i].cells)[j]?:=by
 induction us with
 | nil=>intro i h;simp at h
 | cons u r ih=>
  intro i h j hj
  match i with
  | 0=>
   simp only[List.flatMap_cons,Nat.zero_mul,XI,List.getElem_cons_zero];rw[XM (by simp[C5.cells];omega)]
  | i+1=>
   simp only[List.flatMap_cons,List.getElem_cons_succ];rw[XV (by simp[C5.cells];omega)];rw[show(i+1)*5+j-u.cells.length=i*5+j from by simp[C5.cells];omega];exact ih i QDA j hj
theorem KY.Qx3{base:Nat}{w:World}{a:Option Addr}{n c:Nat}{es:List C5}(h:KY base w (.slice a n c) es):Db w a es/\n=es.length:=by
 rcases h.2 with⟨hv,h0⟩|⟨g,cap,cur,hv,hb',hgg,rest⟩
 ·simp only[Xy]at hv
  exact⟨.inl (ZM h0),QQ⟩
 ·simp only[Xy]at hv
  obtain⟨rfl,rfl,rfl⟩:=hv;refine⟨.inr ⟨g,0,rfl,fun i hi j v hj=>?_⟩,rfl⟩;have hj5:j<5:=by
   have:=(List.getElem?_eq_some_iff.1 hj).1;simpa[C5.cells]using this
  have hc:=World.ownsRow.cells h (g:=g) rfl (i*5+j) v (by rw[mG es i hi j hj5];exact hj);have hadd:∀k,(⟨g,0,none⟩:Addr).add k=⟨g,0+k,none⟩:=fun k=>QF
  rw[hadd]at hc;exact hc
theorem aG{w':World}{base:Nat}{v':Value}{es:List C5}{u:C5}
  (h1:w'.ownsRow base 39 5 v' (es.length+1) (es.flatMap C5.cells++u.cells)):KY base w' v' (es++[u]):=by
 unfold KY;rw[ZN,List.flatMap_append];simpa using h1
theorem cells5{w:World}{B:Nat}{u:C5}(hB:Za w B #[.int .i64 u.a,.int .i64 u.b,.int .i64 u.c,.int .i64 u.d,.int .i64 u.e] 39):∀j x,u.cells[j]? =some x->w.cell? ((⟨B,0,none⟩:Addr).add j)=some x:=by
 obtain⟨e0,e1,e2,e3,e4⟩:=hB.five;intro j x hj;have hadd:(⟨B,0,none⟩:Addr).add j=⟨B,0+j,none⟩:=QF;rw[hadd]
 match j with
 | 0=>simp[C5.cells]at hj;subst hj;exact e0
 | 1=>simp[C5.cells]at hj;subst hj;exact e1
 | 2=>simp[C5.cells]at hj;subst hj;exact e2
 | 3=>simp[C5.cells]at hj;subst hj;exact e3
 | 4=>simp[C5.cells]at hj;subst hj;exact e4
 | j+5=>simp[C5.cells]at hj
theorem Qzk(u:C5):∀v∈u.cells,v.oneCell'=true:=by
 intro v hv;simp[C5.cells]at hv;rcases hv with rfl|rfl|rfl|rfl|rfl<;>rfl
theorem QWj{ops:Array Oper}{rest:List Oper}{o:Oper}{a:Act}{Q:Exit->Act->World->Prop}{w:World}(hgd:o.guard=none)(s x:Operand)
  (ho:o.op=.call {callee:=.builtin .append,args:=#[s,x],argTypes:=#[67,67]})
  (base:Nat) (v:Value) (es:List C5) (u:C5) (B:Nat) (hs:a.eval s=v) (hx:a.eval x=.slice (some ⟨B,0,none⟩) 1 1)
  (hown:KY base w v es) (hB:Za w B #[.int .i64 u.a,.int .i64 u.b,.int .i64 u.c,.int .i64 u.d,.int .i64 u.e] 39) (hl:es.length<1048576) (hbase:base<=w.heap.size)
  (h:∀v' w',KY base w' v' (es++[u])->w.grownBy w' v.ownBlock->wpList Tryz.prog ops Q rest (a.put o.dst v') w'):
  wpList Tryz.prog ops Q (o::rest) a w:=by
 obtain⟨i0,hi,hz0,hz1,hz2⟩:=XR iE;refine wpList_append_own w hgd s x 67 ho base 39 i0 _ 5 40 Tryz.underlying67 hi hz0 hz1 hz2 rfl QZ v es.length _ hs hown ⟨B,0,none⟩ 1 1 u.cells hx rfl (cells5 hB) (Qzk u) ?_ ?_ hbase ?_
 ·unfold maxLen;omega
 ·omega
 ·intro v' w' h1 h2 _
  exact h v' w' (aG h1) h2
end Go.Proofs.YtmdnepkekekncaaGreat

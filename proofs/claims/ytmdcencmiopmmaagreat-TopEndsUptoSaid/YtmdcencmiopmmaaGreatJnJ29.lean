/- joined, no condition of its own. -/
import Derived.Test.YtmdcencmiopmmaaGreatJnT
import Derived.Test.YtmdcencmiopmmaaGreatJnJ1
import Derived.Test.YtmdcencmiopmmaaGreatJnJ8
import Derived.Test.YtmdcencmiopmmaaGreatJnJ19
import Derived.Test.YtmdcencmiopmmaaGreatJnJ28
set_option linter.unusedVariables false
set_option linter.unusedSimpArgs false
set_option maxRecDepth 100000
set_option maxHeartbeats 12000000
namespace Go.Proofs.YtmdcencmiopmmaaGreat
open Go.RowKit
theorem QVN{x y:Int}(h0:0<=x)(h1:x<1099511627776)(h2:0<=y)(h3:y<64):bits .or .i64 (x*64) y=x*64+y:=by
 obtain⟨a,rfl⟩:=Z9 h0;obtain⟨b,rfl⟩:=Z9 h2;have e:((a:Int)*64)=((a*64:Nat):Int):=QQ;rw[e];show IntKind.i64.wrap ((BitVec.ofInt 64 ((a*64:Nat):Int) ||| BitVec.ofInt 64 (b:Int)).toNat:Int)=_;rw[BitVec.toNat_or,ofInt_u64 (a*64) QQ,ofInt_u64 b QQ];have:=Nat.two_pow_add_eq_or_of_lt (i:=6) (b:=b) QQ a;rw[show a*64=2 ^ 6*a from QQ,<-this,Lib.wrap_i64_small _ QQ];omega
structure G where
 c:Int
 n:Int
 e:Int
def Al(x:Int):Bool:=decide (128<=x/\x<192)
def dh(k c:Int):G:=if c<Pw k\/PM c=false then⟨0,0,4⟩else⟨c,k,0⟩
def gV(len:Nat)(b0 b1 b2 b3:Int):G:=
 if len=0 then⟨0,0,3⟩
 else if b0<128 then⟨b0,1,0⟩
 else if b0<192\/248<=b0 then⟨0,0,4⟩
 else if len=1 then⟨0,0,3⟩else if Al b1=false then⟨0,0,4⟩
 else if b0<224 then dh 2 (b0 % 32*64+b1 % 64)
 else if len=2 then⟨0,0,3⟩else if Al b2=false then⟨0,0,4⟩
 else if b0<240 then dh 3 ((b0 % 16*64+b1 % 64)*64+b2 % 64)
 else if len=3 then⟨0,0,3⟩else if Al b3=false then⟨0,0,4⟩
 else dh 4 (((b0 % 8*64+b1 % 64)*64+b2 % 64)*64+b3 % 64)
def gS(s:ByteArray):G:=gV s.size (bt s 0) (bt s 1) (bt s 2) (bt s 3)
def QUD(g:G)(w:World)(e:Ending)(w':World):Prop:=e=.returned (.tuple #[.int .i64 g.c,.int .i64 g.n,.int .i64 g.e])/\Below w.heap.size w w'
def Head(b0:Int)(N:Nat)(c0:Int):Prop:=(192<=b0/\b0<224/\N=2/\c0=b0 % 32)\/(224<=b0/\b0<240/\N=3/\c0=b0 % 16)\/(240<=b0/\b0<248/\N=4/\c0=b0 % 8)
def jc(c0:Int)(s:ByteArray):Nat->Int
 | 0=>c0
 | k+1=>jc c0 s k*64+bt s (k+1) % 64
theorem pK{c0:Int}{s:ByteArray}(h0:0<=c0)(h1:c0<32){k:Nat}(hk:k<=3):0<=jc c0 s k/\jc c0 s k<8388608:=by
 have r1:=Uc s 1;have r2:=Uc s 2;have r3:=Uc s 3;obtain rfl|rfl|rfl|rfl:k=0\/k=1\/k=2\/k=3:=QQ
 all_goals simp only[jc];omega
theorem Head.bd{b0:Int}{N:Nat}{c0:Int}(h:Head b0 N c0):2<=N/\N<=4/\0<=c0/\c0<32:=by
 unfold Head at h;omega
theorem df{s:ByteArray}{N i:Nat}{c0:Int}(h:Head (bt s 0) N c0)(h1:1<=i)(h2:i<N)(hs:s.size=i)(hc:∀j,1<=j->j<i->Al (bt s j)=true):gS s=⟨0,0,3⟩:=by
 unfold gS gV;have hb:=h;unfold Head at hb;rw[if_neg QQ,if_neg QQ,if_neg QQ];obtain rfl|rfl|rfl:i=1\/i=2\/i=3:=by have:=h.bd;omega
 ·rw[if_pos hs]
 ·rw[if_neg QQ,if_neg (by rw[hc 1 QQ QQ];simp),if_neg QQ,if_pos hs]
 ·rw[if_neg QQ,if_neg (by rw[hc 1 QQ QQ];simp),if_neg QQ,if_neg QQ,if_neg (by rw[hc 2 QQ QQ];simp),if_neg QQ,if_pos hs]
theorem ni{s:ByteArray}{N i:Nat}{c0:Int}(h:Head (bt s 0) N c0)(h1:1<=i)(h2:i<N)(hs:i<s.size)(hc:∀j,1<=j->j<i->Al (bt s j)=true)(hf:Al (bt s i)=false):gS s=⟨0,0,4⟩:=by
 unfold gS gV;have hb:=h;unfold Head at hb;rw[if_neg QQ,if_neg QQ,if_neg QQ];obtain rfl|rfl|rfl:i=1\/i=2\/i=3:=by have:=h.bd;omega
 ·rw[if_neg QQ,if_pos hf]
 ·rw[if_neg QQ,if_neg (by rw[hc 1 QQ QQ];simp),if_neg QQ,if_neg QQ,if_pos hf]
 ·rw[if_neg QQ,if_neg (by rw[hc 1 QQ QQ];simp),if_neg QQ,if_neg QQ,if_neg (by rw[hc 2 QQ QQ];simp),if_neg QQ,if_neg QQ,if_pos hf]
theorem QXX{s:ByteArray}{N:Nat}{c0:Int}(h:Head (bt s 0) N c0)(hs:N<=s.size)(hc:∀j,1<=j->j<N->Al (bt s j)=true):gS s=dh N (jc c0 s (N-1)):=by
 unfold gS gV;have hb:=h;unfold Head at hb;rw[if_neg QQ,if_neg QQ,if_neg QQ,if_neg QQ,if_neg (by rw[hc 1 QQ QQ];simp)];rcases hb with⟨a,b,rfl,rfl⟩|⟨a,b,rfl,rfl⟩|⟨a,b,rfl,rfl⟩
 ·rw[if_pos b];rfl
 ·rw[if_neg QQ,if_neg QQ,if_neg (by rw[hc 2 QQ QQ];simp),if_pos b];rfl
 ·rw[if_neg QQ,if_neg QQ,if_neg (by rw[hc 2 QQ QQ];simp),if_neg QQ,if_neg QQ,if_neg (by rw[hc 3 QQ QQ];simp)];rfl
theorem QXZ{s:ByteArray}(hs:0<s.size)(h:bt s 0<128):gS s=⟨bt s 0,1,0⟩:=by
 unfold gS gV;rw[if_neg QQ,if_pos h]
theorem QXY{s:ByteArray}(hs:0<s.size)(h:(128<=bt s 0/\bt s 0<192)\/248<=bt s 0):gS s=⟨0,0,4⟩:=by
 unfold gS gV;rw[if_neg QQ,if_neg QQ,if_pos QQ]
theorem QXQ{s:ByteArray}(hs:s.size=0):gS s=⟨0,0,3⟩:=by
 unfold gS gV;rw[if_pos hs]
theorem isE(s:ByteArray):s.toList.isEmpty=decide (s.size=0):=by
 rw[ByteArray.toList_eq];have h:s.data.toList.length=s.size:=by rw[Array.length_toList];rfl
 rw[<-h];cases s.data.toList<;>simp
theorem eP{s:ByteArray}{j:Nat}(h:j<s.size):((s[j]'h).toNat:Int)=bt s j:=by
 unfold bt;have h2:j<s.data.toList.length:=QAF;simp[List.getD,h];rfl
theorem SY{c0:Int}{s:ByteArray}{i:Nat}(h:1<=i):jc c0 s (i+1-1)=jc c0 s (i-1)*64+bt s i % 64:=by
 obtain⟨k,rfl⟩:∃k,i=k+1:=⟨i-1,QQ⟩;rfl
theorem nK{b0:Int}(h:192<=b0)(h2:b0<248):∃(N:Nat) (c0:Int),Head b0 N c0/\mG b0=(N:Int)/\ldC b0=c0/\onV b0=(N:Int):=by
 unfold mG ldC onV Head;by_cases a:b0<224
 ·exact⟨2,b0 % 32,.inl ⟨h,a,rfl,rfl⟩,by rw[if_neg QQ,if_neg QQ,if_pos a];rfl,by rw[if_neg QQ,if_neg QQ,if_pos a],by rw[if_neg QQ,if_neg QQ,if_pos a];rfl⟩
 ·by_cases b:b0<240
  ·exact⟨3,b0 % 16,.inr (.inl ⟨QQ,b,rfl,rfl⟩),by rw[if_neg QQ,if_neg QQ,if_neg a,if_pos b];rfl,by rw[if_neg QQ,if_neg QQ,if_neg a,if_pos b],by rw[if_neg QQ,if_neg QQ,if_neg a,if_pos b];rfl⟩
  ·exact⟨4,b0 % 8,.inr (.inr ⟨QQ,h2,rfl,rfl⟩),by rw[if_neg QQ,if_neg QQ,if_neg a,if_neg b,if_pos h2];rfl,by rw[if_neg QQ,if_neg QQ,if_neg a,if_neg b,if_pos h2],by rw[if_neg QQ,if_neg QQ,if_neg a,if_neg b,if_pos h2];rfl⟩
theorem eB{x:Int}(h0:0<=x)(h1:x<=255):(Al x=true↔x / 64=2):=by simp[Al];omega
theorem iD(s:ByteArray)(w:World):Calls Tryz.prog 189 #[.string s] w (QUD (gS s) w):=by
 have hE:=isE s;obtain⟨q0,q1⟩:=Uc s 0;by_cases hs:s.size=0
 ·have HG:=Zy (QXQ hs)
  have hE2:s.toList.isEmpty=true:=by rw[hE];simpa using hs
  clear hE hs;go_enter Tryz.func189,Tryz.ntmps189
  exact QER
 ·have hsz:0<s.size:=by omega
  have hE2:s.toList.isEmpty=false:=by rw[hE];simpa using hs
  have hb:=eP hsz;clear hE hs;by_cases h128:bt s 0<128
  ·have HG:=Zy (QXZ hsz h128)
   have HL:=Zy (uT (bt s 0) q0 q1);rw[show mG (bt s 0)=1 by unfold mG;rw[if_pos h128],show ldC (bt s 0)=bt s 0 by unfold ldC;rw[if_pos h128]]at HL;have HS:=Zy (uS (bt s 0));rw[show PM (bt s 0)=true by simp[PM];omega]at HS;have HT:=Zy (Cu 1);rw[show Pw 1=0 from rfl]at HT;go_enter Tryz.func189,Tryz.ntmps189
   go_wp2_with fail
   refine(HL.out _).mono ?_;rintro e w' ⟨rfl,rfl⟩;go_upto_region 7 with fail
   go_loopw [6,7] (fun cv iv wr=>iv=.int .i64 1/\cv=.int .i64 (bt s 0)/\w=wr) (fun _ _ _=>0)
   case atStart=>exact⟨rfl,rfl,rfl⟩
   case round=>
    obtain⟨rfl,rfl,rfl⟩:=hrel;go_wp2_with (first|(go_at_call 220;refine(HT.out _).mono ?_;rintro e w' ⟨rfl,rfl⟩)|(go_at_call 94;refine(HS.out _).mono ?_;rintro e w' ⟨rfl,rfl⟩))
    go_ret3
    rw[HG.out];exact⟨rfl,ZH _ _⟩
  ·by_cases hbad:bt s 0<192\/248<=bt s 0
   ·have HG:=Zy (QXY hsz QQ)
    have HL:=Zy (uT (bt s 0) q0 q1);rw[show mG (bt s 0)=0 by
     unfold mG;repeat' split
     all_goals first|rfl|omega]at HL
    clear hbad h128;go_enter Tryz.func189,Tryz.ntmps189
    go_wp2_with fail
    refine(HL.out _).mono ?_;rintro e w' ⟨rfl,rfl⟩;exact QER
   ·obtain⟨N,c0,hH,hN,hC,-⟩:=nK (b0:=bt s 0) QQ QQ
    obtain⟨n1,n2,n3,n4⟩:=hH.bd;have HH:=Zy hH;have HL:=Zy (uT (bt s 0) q0 q1);rw[hN,hC]at HL;clear hbad h128 hN hC hH;have z1:¬(N:Int)=0:=QQ;go_enter Tryz.func189,Tryz.ntmps189
    go_wp2_with fail
    refine(HL.out _).mono ?_;rintro e w' ⟨rfl,rfl⟩;go_upto_region 7 with fail
    go_loopw [6,7] (fun cv iv wr=>∃i:Nat,iv=.int .i64 (i:Int)/\cv=.int .i64 (jc c0 s (i-1))/\1<=i/\i<=N/\i<=s.size/\(∀j,1<=j->j<i->Al (bt s j)=true)/\w=wr) (fun _ iv _=>N-(intOf iv).toNat)
    case atStart=>exact⟨1,rfl,rfl,QQ,QQ,QQ,fun j h1 h2=>QQ,rfl⟩
    case round=>
     obtain⟨i,rfl,rfl,hi1,hiN,his,hcs,rfl⟩:=hrel;have HC:=Zy hcs;have HA:=Zy (SY (c0:=c0) (s:=s) hi1);have HAN:=Zy (show jc c0 s (i-1)=jc c0 s (i-1)from rfl);obtain⟨a1,a2⟩:=pK (s:=s) n3 n4 (k:=i-1) QQ;clear hcs;by_cases hlt:i<N
     ·have i1:(i:Int)<(N:Int):=by omega
      by_cases hlen:s.size=i
      ·have HG:=Zy (df HH.out hi1 hlt hlen HC.out)
       have e1:((i:Int)==(s.size:Int))=true:=by rw[beq_iff_eq];omega
       generalize jc c0 s (i-1)=A at *;clear hlen;exact QER
      ·have hlt2:i<s.size:=by omega
       have e1:((i:Int)==(s.size:Int))=false:=by rw[XZ];omega
       have hbi:=eP hlt2;obtain⟨r0,r1⟩:=Uc s i;have hor:=QVN (x:=jc c0 s (i-1)) (y:=bt s i % 64) a1 QQ QQ QQ;clear hlen;cases hc:Al (bt s i)with
       | false=>
        have HG:=Zy (ni HH.out hi1 hlt hlt2 HC.out hc);have g1:(bt s i / 64 !=2)=true:=by
         rw[bne_iff_ne];intro h;rw[(eB r0 r1).2 h]at hc;cases hc
        clear hc;exact QER
       | true=>
        have g1:(bt s i / 64 !=2)=false:=by
         rw[bne_eq_false_iff_eq];exact(eB r0 r1).1 hc
        have HCC:=Zy hc;clear hc;go_wp2;go_roundw
        case rel=>
         refine⟨i+1,Qk,by rw[HA.out],QQ,QQ,QQ,fun j h1 h2=>?_,QAX⟩;rcases XK.1 h2 with h|rfl
         ·exact HC.out j h1 h
         ·exact HCC.out
        case measure=>simp[intOf];omega
     ·obtain rfl:N=i:=by omega
      have HG:=Zy (QXX HH.out his HC.out);generalize jc c0 s (N-1)=A at *;have HT:=Zy (Cu (N:Int));have HS:=Zy (uS A);obtain⟨z,hz⟩:∃z,PM A=z:=⟨_,rfl⟩;rw[hz]at HS;have HF:=Zy (show dh (N:Int) A=if A<Pw (N:Int)\/z=false then⟨0,0,4⟩else⟨A,N,0⟩ by rw[<-hz];rfl);generalize Pw (N:Int)=LV at *;clear hz;by_cases hl:A<LV
      ·go_wp2_with (first|(go_at_call 220;refine(HT.out _).mono ?_;rintro e w' ⟨rfl,rfl⟩)|(go_at_call 94;refine(HS.out _).mono ?_;rintro e w' ⟨rfl,rfl⟩))
       go_ret3
       rw[HG.out,HF.out,if_pos (.inl hl)];exact⟨rfl,ZH _ _⟩
      ·rcases z with _|_
       ·go_wp2_with (first|(go_at_call 220;refine(HT.out _).mono ?_;rintro e w' ⟨rfl,rfl⟩)|(go_at_call 94;refine(HS.out _).mono ?_;rintro e w' ⟨rfl,rfl⟩))
        go_ret3
        rw[HG.out,HF.out,if_pos QJ];exact⟨rfl,ZH _ _⟩
       ·go_wp2_with (first|(go_at_call 220;refine(HT.out _).mono ?_;rintro e w' ⟨rfl,rfl⟩)|(go_at_call 94;refine(HS.out _).mono ?_;rintro e w' ⟨rfl,rfl⟩))
        go_ret3
        rw[HG.out,HF.out,if_neg (by simp[hl])];exact⟨rfl,ZH _ _⟩
theorem AX(w:World)(x:Int):Ints (w.alloc (.cells #[.int .i64 x] 3)) (some ⟨w.heap.size,0,none⟩) [x]:=by
 obtain⟨y0,-⟩:=Za.one (Za.new w #[.int .i64 x] 3);refine .inr ⟨_,0,rfl,fun i hi=>?_⟩;obtain rfl:i=0:=QAs;exact y0
theorem ib{l:List Int}{k:Nat}(hk:k<l.length):l.take (k+1)=l.take k++[ix l k]:=by
 rw[List.take_add_one,Yw hk,XJ hk];rfl
def Gg(b:Int):Int:=if b=224 then 160 else if b=240 then 144 else 128
def Gh(b:Int):Int:=if b=237 then 159 else if b=244 then 143 else 191
def xk(b:Int):Int:=if b<128 then 1 else if 194<=b/\b<=223 then 2 else if 224<=b/\b<=239 then 3 else if 240<=b/\b<=244 then 4 else 0
def qf(A:List Int)(b:Int):Bool:=if A.length=1 then decide (Gg (ix A 0)<=b/\b<=Gh (ix A 0))else decide (128<=b/\b<=191)
def Cn(A:List Int):ByteArray:=⟨(A.map fun x=>UInt8.ofNat x.toNat).toArray⟩
def gy(A:List Int):Prop:=∀x∈A,0<=x/\x<256
structure MS where
 ah:List Int
 out:List Int
def MS.brk(m:MS):MS:=if m.ah=[]then m else⟨[],m.out++[65533]⟩
def MS.put(m:MS)(b:Int):MS:=
 if m.ah=[]/\xk b=0 then⟨[],m.out++[65533]⟩
 else if((m.ah.length+1:Nat):Int)=xk (ix (m.ah++[b]) 0)then⟨[],m.out++[(gS (Cn (m.ah++[b]))).c]⟩else⟨m.ah++[b],m.out⟩
def MS.take(m:MS)(b:Int):MS:=(if m.ah≠[]/\qf m.ah b=false then m.brk else m).put b
def WK(l:List Int):MS:=l.foldl MS.take ⟨[],[]⟩
theorem IA(b:Int)(h0:0<=b)(h1:b<=255)(w:World):Calls Tryz.prog 218 #[.int .u8 b] w fun e w'=>e=.returned (.tuple #[.int .u8 (Gg b),.int .u8 (Gh b)])/\w=w':=by
 go_enter Tryz.func218,Tryz.ntmps218
 go_wp2
 all_goals
  go_ret2
  refine⟨YA Ending.returned (YA Value.tuple (show#[Value.int .u8 _,Value.int .u8 _]=_ from ?_)),rfl⟩;simp_all[Gg,Gh]
theorem AP(b:Int)(h0:0<=b)(h1:b<=255)(w:World):Calls Tryz.prog 188 #[.int .u8 b] w fun e w'=>e=.returned (.int .i64 (xk b))/\w=w':=by
 have HW:=Zy (show xk b=if b<128 then 1 else if 194<=b/\b<=223 then 2 else if 224<=b/\b<=239 then 3 else if 240<=b/\b<=244 then 4 else 0 from rfl);go_enter Tryz.func188,Tryz.ntmps188
 go_wp2
 all_goals
  go_ret;refine⟨XA ?_,rfl⟩;rw[HW.out]
  repeat' split
  all_goals first|rfl|(exfalso;omega)
def bv(A:List Int):List Value:=A.map (Value.int .u8)
theorem Rn(a:Option Addr)(n c:Nat)(A:List Int)(b:Int)(w:World)(hv:J7 w a (bv A))(hn:A.length=n)(hA:gy A)(h0:0<=b)(h1:b<=255):Calls Tryz.prog 186 #[.slice a n c,.int .u8 b] w fun e w'=>e=.returned (.bool (qf A b))/\w=w':=by
 by_cases h:n=1
 ·obtain⟨x,rfl⟩:∃x,A=[x]:=by
   match A,hn.trans h with
   | [x],_=>exact⟨x,rfl⟩
  have hx:=hA x QJ;subst h;obtain⟨bb,oo,rfl,hc⟩:=hv.at (k:=0) (by simp[bv]);have e1:=hc 0 (by simp[bv]);rw[show vx (bv [x]) 0=.int .u8 x from rfl,X8]at e1;have HS:=Zy (IA x hx.1 QQ);have HF:=Zy (show qf [x] b=decide (Gg x<=b/\b<=Gh x)from rfl);generalize Gg x=lo at *;generalize Gh x=hi at *;clear hc hn;go_enter Tryz.func186,Tryz.ntmps186
  go_wp2_with fail
  refine(HS.out _).mono ?_;rintro e w' ⟨rfl,rfl⟩;exact QFA
 ·have HF:=Zy (show qf A b=decide (128<=b/\b<=191) by unfold qf;rw[if_neg QQ])
  have e1:((n:Int)==1)=false:=by rw[XZ];omega
  go_enter Tryz.func186,Tryz.ntmps186
  exact QFA
theorem mP:(Tryz.prog.info? 5).map (fun i=>(i.zero,i.size,i.bytes))=some (some (.int .u8 0),1,1):=QX
structure Su (w:World) (M:Nat) (av ov:Value) (m:MS):Prop where
 blk:Za w M #[av,ov] 171
 ah:XT 5 (M+1) w av (bv m.ah)
 out:Own 3 (M+1) w ov m.out
 byt:gy m.ah
def QQV(M:Nat)(m:MS)(w:World)(e:Ending)(w':World):Prop:=e=.returned (.tuple #[])/\(∃av ov,Su w' M av ov m)/\Below M w w'
theorem Su.below{w w':World}{M:Nat}{av ov:Value}{m:MS}(h:Su w M av ov m)(hb:Below w.heap.size w w'):Su w' M av ov m:=
 ⟨h.blk.below hb h.blk.lt,h.ah.kept hb,h.out.kept hb,h.byt⟩
theorem Su.lt{w:World}{M:Nat}{av ov:Value}{m:MS}(h:Su w M av ov m):M+1<=w.heap.size:=h.blk.lt
theorem XT.Hg{e:TypeId}{base:Nat}{w:World}{a:Option Addr}{n c:Nat}{xs:List Value}(h:XT e base w (.slice a n c) xs):xs.length=n/\J7 w a xs/\(a=none->n=0):=by
 have:=h.vs.get;exact⟨this.1,this.2.2.2.1,this.2.2.2.2⟩
theorem VW(A:List Int):(bv A).length=A.length:=by simp[bv]
theorem QKm{ops:Array Oper}{rest:List Oper}{o:Oper}{a:Act}{Q:Exit->Act->World->Prop}{w:World}(hgd:o.guard=none)(s x:Operand)
  (ho:o.op=.call {callee:=.builtin .append,args:=#[s,x],argTypes:=#[156,156]})
  (base:Nat) (v:Value) (xs:List Int) (y:Int) (ad:Addr) (hs:a.eval s=v) (hx:a.eval x=.slice (some ad) 1 1)
  (hown:XT 5 base w v (bv xs)) (hc:w.cell? ad=some (.int .u8 y)) (hl:xs.length<17592186044416) (hbase:base<=w.heap.size)
  (h:∀v' w',XT 5 base w' v' (bv (xs++[y]))->w.grownBy w' v.ownBlock->wpList Tryz.prog ops Q rest (a.put o.dst v') w'):
  wpList Tryz.prog ops Q (o::rest) a w:=by
 obtain⟨i0,hi,hz0,hz1,hz2⟩:=Xf mP;refine wpList_append_own w hgd s x 156 ho base 5 i0 (.int .u8 0) 1 1 Tryz.underlying156 hi hz0 hz1 hz2 rfl QZ v (bv xs).length _ hs hown ad 1 1 [.int .u8 y] hx rfl ?_ ?_ ?_ ?_ hbase ?_
 ·intro j u hj
  match j with
  | 0=>simp at hj;subst hj;simpa[Addr.add]using hc
  | j+1=>simp at hj
 ·intro u hu;simp at hu;subst hu;rfl
 ·rw[VW];unfold maxLen;omega
 ·rw[VW];omega
 ·intro v' w' h1 h2 _
  refine h v' w' ?_ h2;unfold XT;simpa[bv]using h1
theorem XT.conv{base:Nat}{w:World}{v:Value}{A:List Int}(h:XT 5 base w v (bv A))(hA:gy A):(convert 156 9 v).run Tryz.prog w=.ok (.string (Cn A)) w:=by
 rcases h.2 with⟨rfl,h0⟩|⟨g,cap,cur,rfl,hb',hgg,rest⟩
 ·rw[VW]at h0
  obtain rfl:A=[]:=Ze h0;rw[run_convert_bytes_string w _ _ _ _ _ _ Tryz.underlying156 Tryz.underlying5 Tryz.underlying9];rfl
 ·have:=run_convert_bytes_back (P:=Tryz.prog) w 156 9 5 ⟨g,0,none⟩ cap (A.map fun x=>UInt8.ofNat x.toNat) Tryz.underlying156 Tryz.underlying5 Tryz.underlying9 (fun j hj=>by
   have hj2:j<A.length:=by simpa using hj
   have hb:=hA _ (YK hj2);refine(World.ownsRow.cells h (g:=g) rfl j _ ?_);simp[bv,hj2]
   omega)
  simpa[Cn,VW]using this
theorem oG{m:MS}(h:m.ah=[]):m.brk=m:=by unfold MS.brk;rw[if_pos h]
theorem fQ{m:MS}(h:m.ah≠[]):m.brk=⟨[],m.out++[65533]⟩:=by unfold MS.brk;rw[if_neg h]
theorem IC(M:Nat)(av ov:Value)(m:MS)(w:World)(h:Su w M av ov m)(ho:m.out.length<=4194304):
  Calls Tryz.prog 187 #[.pointer (some ⟨M,0,none⟩)] w (QQV M m.brk w):=by
 obtain⟨a,n,c,rfl⟩:=h.ah.form;obtain⟨a2,n2,c2,rfl⟩:=h.out.form;obtain⟨g1,g2,g3⟩:=h.ah.Hg;rw[VW]at g1;obtain⟨c0,c1,f0,f1⟩:=h.blk.two;have HM:=Zy h;by_cases hn:n=0
 ·have HB:=Zy (oG (m:=m) (Ze QQ))
  subst hn;clear h g1 g2 g3;go_enter Tryz.func187,Tryz.ntmps187
  go_wp2
  go_end0
  rw[HB.out];exact⟨rfl,⟨_,_,HM.out⟩,ZH _ _⟩
 ·have HB:=Zy (fQ (m:=m) (by intro e;rw[e]at g1;simp at g1;omega))
  have i1:(0:Int)<(n:Int):=QQ;have hown:=h.out;have hz:=h.lt;have tL:=h.blk.alloc (.cells #[.int .i64 65533] 3);have hne:=hown.Xa h.blk QZ;have hah:=h.ah.alloc (.cells #[.int .i64 65533] 3);clear h g1 g2 g3 hn;go_enter Tryz.func187,Tryz.ntmps187
  go_wp2_with (at_builtin;refine SQ rfl _ _ rfl (M+1) _ m.out [65533] _ 1 1 rfl rfl (hown.alloc _) (AX _ _) rfl QQ (XG hz _) ?_;intro v3 w3 hown3 hgrow3 _;obtain⟨a3,n3,c3,rfl⟩:=hown3.form;have hB3:=tL.grown hgrow3 hne;obtain⟨c0,c1,f0,f1⟩:=hB3.two)
  have hb3:Below M w w3:=((ZT w (.cells #[.int .i64 65533] 3)).mono QQ).grown hgrow3 QAV (fun k hk=>Qvw)
  go_end0
  rw[HB.out];refine⟨rfl,⟨.slice none 0 0,.slice a3 n3 c3,(hB3.set 1 (.slice a3 n3 c3)).set 0 (.slice none 0 0),XT.nil _ _ _,(hown3.setCell (a:=⟨M,1,none⟩) (ZF _) _).setCell (a:=⟨M,0,none⟩) (ZF _) _,fun x hx=>by simp at hx⟩,?_⟩;exact(hb3.setCell (p:=⟨M,1,none⟩) (ZB _) _).setCell (p:=⟨M,0,none⟩) (ZB _) _
theorem XT.oL{e e':TypeId}{base fK:Nat}{w w':World}{v v2:Value}{xs:List Value}{us:List Int}(h:XT e base w v xs)(h2:Own e' fK w v2 us)(he:e≠e')(hg:w.grownBy w' v2.ownBlock):XT e base w' v xs:=by
 refine⟨h.1,?_⟩;rcases h.2 with hn|⟨g,cap,cur,rfl,hb',hgg,rest⟩
 ·exact .inl hn
 ·refine .inr ⟨g,cap,cur,rfl,hb',?_,rest⟩
  rw[hg.block g (Array.getElem?_eq_some_iff.1 hgg).1 ?_]
  ·exact hgg
  ·intro hv
   rcases h2.2 with⟨rfl,_⟩|⟨g2,cap2,QkW,rfl,hb2,QZI,QzL⟩
   ·simp[Value.ownBlock]at hv
   ·simp only[Value.ownBlock,ZM]at hv
    subst hv;rw[hgg]at QZI;simp at QZI;exact he QZI.2
def MS.mid(m:MS)(b:Int):MS:=if m.ah≠[]/\qf m.ah b=false then m.brk else m
theorem gy.snoc{A:List Int}{b:Int}(h:gy A)(h0:0<=b)(h1:b<=255):gy (A++[b]):=by
 intro x hx;rcases XL.1 hx with h'|h'
 ·exact h x h'
 ·obtain rfl:x=b:=by simpa using h'
  omega
theorem Og(m:MS):m.brk.ah.length<=m.ah.length/\m.brk.out.length<=m.out.length+1:=by
 unfold MS.brk;split<;>simp
theorem Rm(M:Nat)(av ov:Value)(m:MS)(b:Int)(w:World)(h:Su w M av ov m)(h0:0<=b)(h1:b<=255)(ha:m.ah.length<=3)(ho:m.out.length<=4194300):
  Calls Tryz.prog 129 #[.pointer (some ⟨M,0,none⟩),.int .u8 b] w (QQV M (m.take b) w):=by
 have HM:=Zy h;have HT:=Zy (show m.take b=(m.mid b).put b from rfl);obtain⟨a,n,c,rfl⟩:=h.ah.form;obtain⟨g1,g2,g3⟩:=h.ah.Hg;rw[VW]at g1;obtain⟨c0,c1,f0,f1⟩:=h.blk.two;have HFI:=Zy (Rn a n c m.ah b w g2 g1 h.byt h0 h1);go_enter Tryz.func129,Tryz.ntmps129
 go_upto_region 0 with fail
 go_cut [21] (fun v wx=>v=.bool (decide (m.ah≠[]/\qf m.ah b=false))/\w=wx)
 case first=>
  by_cases hn:n=0
  ·have he:m.ah=[]:=Ze QQ
   have HD:=Zy (show decide (m.ah≠[]/\qf m.ah b=false)=false by simp[he]);subst hn;exact QEi
  ·have i1:(0:Int)<(n:Int):=by omega
   have he:m.ah≠[]:=by intro e;rw[e]at g1;simp at g1;omega
   have HD:=Zy (show decide (m.ah≠[]/\qf m.ah b=false)=!(qf m.ah b) by cases qf m.ah b<;>simp[he]);generalize qf m.ah b=fb at *;clear hn he g1 g2 g3;go_wp2_with fail
   refine HFI.out.mono ?_;rintro e w' ⟨rfl,rfl⟩;exact QEi
 case rest=>
  obtain⟨rfl,rfl⟩:=hcut;go_upto_if 21 with fail
  go_cut [23] (fun v wx=>(∃av ov,Su wx M av ov (m.mid b))/\Below M w wx)
  case first=>
   by_cases hc:m.ah≠[]/\qf m.ah b=false
   ·have HD:=Zy (show m.mid b=m.brk by unfold MS.mid;rw[if_pos hc])
    rw[show decide (m.ah≠[]/\qf m.ah b=false)=true from decide_eq_true hc];clear hc;go_wp2_with fail
    refine(IC M _ ov m w HM.out QQ).mono ?_;rintro e w' ⟨rfl,hm,hb⟩;go_wp2;go_meet;rw[HD.out];exact⟨hm,hb⟩
   ·have HD:=Zy (show m.mid b=m by unfold MS.mid;rw[if_neg hc])
    rw[show decide (m.ah≠[]/\qf m.ah b=false)=false from decide_eq_false hc];clear hc;go_wp2;go_meet;rw[HD.out];exact⟨⟨_,_,HM.out⟩,ZH _ _⟩
  case rest=>
   obtain⟨⟨av1,ov1,hm1⟩,hb1⟩:=hcut;obtain⟨V,hV⟩:∃V,V=wc:=⟨_,rfl⟩;subst hV;have hl1:(m.mid b).ah.length<=3/\(m.mid b).out.length<=4194301:=by
    have:=Og m;unfold MS.mid;split<;>omega
   clear HM HFI c0 c1 f0 f1 g1 g2 g3 h ha ho;generalize m.mid b=m1 at *;obtain⟨la,lo⟩:=hl1;obtain⟨a1,n1,k1,rfl⟩:=hm1.ah.form;obtain⟨a2,n2,k2,rfl⟩:=hm1.out.form;obtain⟨g1,g2,g3⟩:=hm1.ah.Hg;rw[VW]at g1;have HM:=Zy hm1;have HW:=Zy (AP b h0 h1);obtain⟨c0,c1,f0,f1⟩:=hm1.blk.two;clear hm1;go_upto_region 2 with fail
   go_cut [34] (fun v wx=>v=.bool (decide (m1.ah=[]/\xk b=0))/\V=wx)
   case first=>
    by_cases hn:n1=0
    ·have he:m1.ah=[]:=Ze QQ
     have HD:=Zy (show decide (m1.ah=[]/\xk b=0)=(xk b==0) by rw[Bool.eq_iff_iff];simp[he]);generalize xk b=wh at *;clear he;subst hn;go_wp2_with fail
     refine(HW.out _).mono ?_;rintro e w' ⟨rfl,rfl⟩;exact QEi
    ·have he:m1.ah≠[]:=by intro e;rw[e]at g1;simp at g1;omega
     have HD:=Zy (show decide (m1.ah=[]/\xk b=0)=false by simp[he]);have z1:((n1:Int)==0)=false:=by rw[XZ];omega
     clear he hn g1 g2 g3;exact QEi
   case rest=>
    obtain⟨rfl,rfl⟩:=hcut;have hz:=HM.out.lt;by_cases hc:m1.ah=[]/\xk b=0
    ·have HP:=Zy (show m1.put b=⟨[],m1.out++[65533]⟩ by unfold MS.put;rw[if_pos hc])
     have HE:=Zy hc.1;rw[show decide (m1.ah=[]/\xk b=0)=true from decide_eq_true hc];have hown:=HM.out.out;have tL:=HM.out.blk.alloc (.cells #[.int .i64 65533] 3);have hne:=hown.Xa HM.out.blk QZ;have QWM:=HM.out.ah.alloc (.cells #[.int .i64 65533] 3);clear hc;go_wp2_with (at_builtin;refine SQ rfl _ _ rfl (M+1) _ m1.out [65533] _ 1 1 rfl rfl (hown.alloc _) (AX _ _) rfl QQ (XG hz _) ?_;intro v3 w3 hown3 hgrow3 _;obtain⟨a3,n3,c3,rfl⟩:=hown3.form;have hB3:=tL.grown hgrow3 hne;obtain⟨c0,c1,f0,f1⟩:=hB3.two)
     have hb3:Below M w w3:=(hb1.alloc QBW (.cells #[.int .i64 65533] 3)).grown hgrow3 QAV (fun k hk=>Qvw)
     go_end0
     rw[HT.out,HP.out];refine⟨rfl,⟨.slice a1 n1 k1,.slice a3 n3 c3,hB3.set 1 (.slice a3 n3 c3),?_,hown3.setCell (a:=⟨M,1,none⟩) (ZF _) _,fun x hx=>by simp at hx⟩,hb3.setCell (p:=⟨M,1,none⟩) (ZB _) _⟩;have:=QWM.oL (hown.alloc (.cells #[.int .i64 65533] 3)) QZ hgrow3;rw[HE.out]at this;exact this.setCell (a:=⟨M,1,none⟩) (ZF _) _
    ·rw[show decide (m1.ah=[]/\xk b=0)=false from decide_eq_false hc]
     obtain⟨x0,hx0⟩:∃x,ix (m1.ah++[b]) 0=x:=⟨_,rfl⟩;have QZL:=HM.out.byt.snoc h0 h1;have HB2:=Zy QZL;have sN:0<=x0/\x0<256:=by rw[<-hx0];exact QZL _ (Md QJ)
     have HP:=Zy (show m1.put b=if((m1.ah.length+1:Nat):Int)=xk x0 then⟨[],m1.out++[(gS (Cn (m1.ah++[b]))).c]⟩else⟨m1.ah++[b],m1.out⟩ by unfold MS.put;rw[if_neg hc,hx0]);have hah:=HM.out.ah;have tL:=HM.out.blk.alloc (.cells #[.int .u8 b] 5);have hne:=hah.Xa HM.out.blk QZ;have tZ:=HM.out.out.alloc (.cells #[.int .u8 b] 5);have HG1:=Zy g1;clear hc g1 g2 g3 QZL;go_upto_region 5 with(at_builtin;refine QKm rfl _ _ rfl (M+1) _ m1.ah b _ rfl rfl (hah.alloc _) ((Za.new _ #[.int .u8 b] 5).one.1) QQ (XG hz _) ?_;intro v3 w3 QZS hgrow3;obtain⟨a3,n3,c3,rfl⟩:=QZS.form;have hB3:=tL.grown hgrow3 hne;obtain⟨c0,c1,f0,f1⟩:=hB3.two)
     have hb3:Below M w w3:=(hb1.alloc QBW (.cells #[.int .u8 b] 5)).grown hgrow3 QAV (fun k hk=>by have:=hah.row k hk;omega);have hM5:Su (w3.setCell ⟨M,0,none⟩ (.slice a3 n3 c3)) M (.slice a3 n3 c3) (.slice a2 n2 k2) ⟨m1.ah++[b],m1.out⟩:=
      ⟨hB3.set 0 (.slice a3 n3 c3),QZS.setCell (a:=⟨M,0,none⟩) (ZF _) _,(tZ.beside (hah.alloc (.cells #[.int .u8 b] 5)) QZ hgrow3).setCell (a:=⟨M,0,none⟩) (ZF _) _,HB2.out⟩
     have hb5:=hb3.setCell (p:=⟨M,0,none⟩) (ZB _) (.slice a3 n3 c3);clear QZS hB3 tL tZ hgrow3 hb3 c0 c1 f0 f1 hah hne;generalize w3.setCell ⟨M,0,none⟩ (.slice a3 n3 c3)=w5 at *;obtain⟨g1,g2,g3⟩:=hM5.ah.Hg;rw[VW]at g1;have kZ:n3=m1.ah.length+1:=by rw[<-g1];simp
     obtain⟨c0,c1,f0,f1⟩:=hM5.blk.two;obtain⟨bb,oo,rfl,hcl⟩:=g2.at (k:=0) (by rw[VW];simp);have e1:=hcl 0 (by rw[VW];simp);rw[show vx (bv (m1.ah++[b])) 0=.int .u8 x0 by rw[VY (by rw[VW];simp)];simp only[bv,List.getElem_map];rw[<-hx0,Yw QJ],X8]at e1;have HW0:=Zy (AP x0 sN.1 QQ);have HM5:=Zy hM5;have i3:(0:Int)<(n3:Int):=QQ;have i4:0<n3:=QQ;have FO:=Zy kZ;clear hcl g1 g2 g3 hM5 kZ hx0
     go_cut [66] (fun v wx=>v=.bool ((n3:Int)==xk x0)/\Below w5.heap.size w5 wx)
     case first=>
      generalize xk x0=wh at *
      go_region_held3 (fun w'=>w'.cell? ⟨M,0,none⟩=some (.slice (some ⟨bb,oo,none⟩) n3 c3)/\w'.cell? ⟨bb,oo,none⟩=some (.int .u8 x0)/\Below w5.heap.size w5 w') (first|exact⟨c0,e1,(ZH _ _).drew⟩|assumption)
       (first|(go_at_call 188;(refine(HW0.out _).mono ?_;rintro e w9 ⟨rfl,rfl⟩)))
      all_goals
       go_wp2;go_meet;exact⟨rfl,(ZH _ _).drew⟩
     case rest=>
      obtain⟨rfl,hb6⟩:=hcut;have HM6:=Zy (HM5.out.below hb6);have qz:=ZE hb5 (by have:=HM5.out.lt;omega) hb6;have mh:=HM6.out.lt;clear c0 c1 f0 f1 e1 hb6 hb5 hb1;obtain⟨c0,c1,f0,f1⟩:=HM6.out.blk.two;have hcv:=HM6.out.ah.conv HM6.out.byt;have hown:=HM6.out.out;by_cases he:(n3:Int)=xk x0
      ·have HP2:=Zy (show m1.put b=⟨[],m1.out++[(gS (Cn (m1.ah++[b]))).c]⟩ by rw[HP.out,if_pos (by rw[<-FO.out];exact he)])
       have HGT:=Zy (iD (Cn (m1.ah++[b])));generalize gS (Cn (m1.ah++[b]))=g at *;generalize Cn (m1.ah++[b])=sb at *;obtain⟨gc,gn,ge⟩:=g;have e9:((n3:Int)==xk x0)=true:=by rw[beq_iff_eq];exact he
       rw[e9];clear he;simp only at hcv hown;go_wp2_with fail
       refine(HGT.out _).mono ?_;rintro e w8 ⟨rfl,XF⟩;have HM8:=Zy (HM6.out.below XF);have uj:=HM8.out.lt;have Jv:=ZE qz QQ XF;have zM:=HM8.out.out;simp only at zM;have tL:=HM8.out.blk.alloc (.cells #[.int .i64 gc] 3);have hne:=zM.Xa HM8.out.blk QZ;clear c0 c1 f0 f1 hown;obtain⟨c0,c1,f0,f1⟩:=HM8.out.blk.two;go_wp2_with (at_builtin;refine SQ rfl _ _ rfl (M+1) _ m1.out [gc] _ 1 1 rfl rfl (zM.alloc _) (AX _ _) rfl QQ (XG uj _) ?_;intro v9 w9 C9 Xe _;obtain⟨a9,n9,c9,rfl⟩:=C9.form;have U0:=tL.grown Xe hne;obtain⟨c0,c1,f0,f1⟩:=U0.two)
       have hbb:Below M w w9:=(Jv.alloc QQ (.cells #[.int .i64 gc] 3)).grown Xe QAV (fun k hk=>by have:=zM.row k hk;omega)
       go_end0
       rw[HT.out,HP2.out];refine⟨rfl,⟨.slice none 0 0,.slice a9 n9 c9,(U0.set 1 (.slice a9 n9 c9)).set 0 (.slice none 0 0),XT.nil _ _ _,(C9.setCell (a:=⟨M,1,none⟩) (ZF _) _).setCell (a:=⟨M,0,none⟩) (ZF _) _,fun x hx=>by simp at hx⟩,?_⟩;exact(hbb.setCell (p:=⟨M,1,none⟩) (ZB _) _).setCell (p:=⟨M,0,none⟩) (ZB _) _
      ·have HP2:=Zy (show m1.put b=⟨m1.ah++[b],m1.out⟩ by rw[HP.out,if_neg (by rw[<-FO.out];exact he)])
       have e9:((n3:Int)==xk x0)=false:=by rw[XZ];exact he
       rw[e9];clear he;go_wp2
       go_end0
       rw[HT.out,HP2.out];exact⟨rfl,⟨_,_,HM6.out⟩,qz⟩
end Go.Proofs.YtmdcencmiopmmaaGreat

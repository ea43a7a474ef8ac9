/- joined, no condition of its own. -/
import Derived.Test.YtmdnepkekekncaaGreatJfJ26
set_option linter.unusedVariables false
set_option linter.unusedSimpArgs false
set_option maxRecDepth 100000
set_option maxHeartbeats 12000000
namespace Go.Proofs.YtmdnepkekekncaaGreat
open Go.RowKit
theorem aR{c0:Int}{s:ByteArray}{i:Nat}(h:1<=i):kM c0 s (i+1-1)=kM c0 s (i-1)*64+bt s i % 64:=by
 obtain⟨k,rfl⟩:∃k,i=k+1:=⟨i-1,QQ⟩;rfl
theorem QQq{b0:Int}(h:192<=b0)(h2:b0<248):∃(N:Nat) (c0:Int),Head b0 N c0/\tq b0=(N:Int)/\ldC b0=c0/\onV b0=(N:Int):=by
 unfold tq ldC onV Head;by_cases a:b0<224
 ·exact⟨2,b0 % 32,.inl ⟨h,a,rfl,rfl⟩,by rw[if_neg QQ,if_neg QQ,if_pos a];rfl,by rw[if_neg QQ,if_neg QQ,if_pos a],by rw[if_neg QQ,if_neg QQ,if_pos a];rfl⟩
 ·by_cases b:b0<240
  ·exact⟨3,b0 % 16,.inr (.inl ⟨QQ,b,rfl,rfl⟩),by rw[if_neg QQ,if_neg QQ,if_neg a,if_pos b];rfl,by rw[if_neg QQ,if_neg QQ,if_neg a,if_pos b],by rw[if_neg QQ,if_neg QQ,if_neg a,if_pos b];rfl⟩
  ·exact⟨4,b0 % 8,.inr (.inr ⟨QQ,h2,rfl,rfl⟩),by rw[if_neg QQ,if_neg QQ,if_neg a,if_neg b,if_pos h2];rfl,by rw[if_neg QQ,if_neg QQ,if_neg a,if_neg b,if_pos h2],by rw[if_neg QQ,if_neg QQ,if_neg a,if_neg b,if_pos h2];rfl⟩
theorem mV{x:Int}(h0:0<=x)(h1:x<=255):(Vb x=true↔x / 64=2):=by simp[Vb];omega
theorem pM(s:ByteArray)(w:World):Calls Tryz.prog 112 #[.string s] w (QW3 (gS s) w):=by
 have hE:=isE s;obtain⟨q0,q1⟩:=Uf s 0;by_cases hs:s.size=0
 ·have HG:=Zy (QJH hs)
  have hE2:s.toList.isEmpty=true:=by rw[hE];simpa using hs
  clear hE hs;go_enter Tryz.func112,Tryz.ntmps112
  exact QHt
 ·have hsz:0<s.size:=by omega
  have hE2:s.toList.isEmpty=false:=by rw[hE];simpa using hs
  have hb:=EF hsz;clear hE hs;by_cases h128:bt s 0<128
  ·have HG:=Zy (QJI hsz h128)
   have HL:=Zy (AU (bt s 0) q0 q1);rw[show tq (bt s 0)=1 by unfold tq;rw[if_pos h128],show ldC (bt s 0)=bt s 0 by unfold ldC;rw[if_pos h128]]at HL;have HS:=Zy (AJ (bt s 0));rw[show KD (bt s 0)=true by simp[KD];omega]at HS;have HT:=Zy (Di 1);rw[show yo 1=0 from rfl]at HT;go_enter Tryz.func112,Tryz.ntmps112
   go_wp2_with fail
   refine(HL.out _).mono ?_;rintro e w' ⟨rfl,rfl⟩;go_upto_region 7 with fail
   go_loopw [6,7] (fun cv iv wr=>iv=.int .i64 1/\cv=.int .i64 (bt s 0)/\w=wr) (fun _ _ _=>0)
   case atStart=>exact⟨rfl,rfl,rfl⟩
   case round=>
    obtain⟨rfl,rfl,rfl⟩:=hrel;go_wp2_with (first|(go_at_call 135;refine(HT.out _).mono ?_;rintro e w' ⟨rfl,rfl⟩)|(go_at_call 49;refine(HS.out _).mono ?_;rintro e w' ⟨rfl,rfl⟩))
    go_ret3
    rw[HG.out];exact⟨rfl,ZH _ _⟩
  ·by_cases hbad:bt s 0<192\/248<=bt s 0
   ·have HG:=Zy (QJM hsz QQ)
    have HL:=Zy (AU (bt s 0) q0 q1);rw[show tq (bt s 0)=0 by
     unfold tq;repeat' split
     all_goals first|rfl|omega]at HL
    clear hbad h128;go_enter Tryz.func112,Tryz.ntmps112
    go_wp2_with fail
    refine(HL.out _).mono ?_;rintro e w' ⟨rfl,rfl⟩;exact QHt
   ·obtain⟨N,c0,hH,hN,hC,-⟩:=QQq (b0:=bt s 0) QQ QQ
    obtain⟨n1,n2,n3,n4⟩:=hH.bd;have HH:=Zy hH;have HL:=Zy (AU (bt s 0) q0 q1);rw[hN,hC]at HL;clear hbad h128 hN hC hH;have z1:¬(N:Int)=0:=QQ;go_enter Tryz.func112,Tryz.ntmps112
    go_wp2_with fail
    refine(HL.out _).mono ?_;rintro e w' ⟨rfl,rfl⟩;go_upto_region 7 with fail
    go_loopw [6,7] (fun cv iv wr=>∃i:Nat,iv=.int .i64 (i:Int)/\cv=.int .i64 (kM c0 s (i-1))/\1<=i/\i<=N/\i<=s.size/\(∀j,1<=j->j<i->Vb (bt s j)=true)/\w=wr) (fun _ iv _=>N-(intOf iv).toNat)
    case atStart=>exact⟨1,rfl,rfl,QQ,QQ,QQ,fun j h1 h2=>QQ,rfl⟩
    case round=>
     obtain⟨i,rfl,rfl,hi1,hiN,his,hcs,rfl⟩:=hrel;have HC:=Zy hcs;have HA:=Zy (aR (c0:=c0) (s:=s) hi1);have HAN:=Zy (show kM c0 s (i-1)=kM c0 s (i-1)from rfl);obtain⟨a1,a2⟩:=QQ8 (s:=s) n3 n4 (k:=i-1) QQ;clear hcs;by_cases hlt:i<N
     ·have i1:(i:Int)<(N:Int):=by omega
      by_cases hlen:s.size=i
      ·have HG:=Zy (lN HH.out hi1 hlt hlen HC.out)
       have e1:((i:Int)==(s.size:Int))=true:=by rw[beq_iff_eq];omega
       generalize kM c0 s (i-1)=A at *;clear hlen;exact QHt
      ·have hlt2:i<s.size:=by omega
       have e1:((i:Int)==(s.size:Int))=false:=by rw[XX];omega
       have hbi:=EF hlt2;obtain⟨r0,r1⟩:=Uf s i;have hor:=Qzx (x:=kM c0 s (i-1)) (y:=bt s i % 64) a1 QQ QQ QQ;clear hlen;cases hc:Vb (bt s i)with
       | false=>
        have HG:=Zy (QQR HH.out hi1 hlt hlt2 HC.out hc);have g1:(bt s i / 64 !=2)=true:=by
         rw[bne_iff_ne];intro h;rw[(mV r0 r1).2 h]at hc;cases hc
        clear hc;exact QHt
       | true=>
        have g1:(bt s i / 64 !=2)=false:=by
         rw[bne_eq_false_iff_eq];exact(mV r0 r1).1 hc
        have HCC:=Zy hc;clear hc;go_wp2;go_roundw
        case rel=>
         refine⟨i+1,Qy,by rw[HA.out],QQ,QQ,QQ,fun j h1 h2=>?_,QC4⟩;rcases XZ.1 h2 with h|rfl
         ·exact HC.out j h1 h
         ·exact HCC.out
        case measure=>simp[intOf];omega
     ·obtain rfl:N=i:=by omega
      have HG:=Zy (QJL HH.out his HC.out);generalize kM c0 s (N-1)=A at *;have HT:=Zy (Di (N:Int));have HS:=Zy (AJ A);obtain⟨z,hz⟩:∃z,KD A=z:=⟨_,rfl⟩;rw[hz]at HS;have HF:=Zy (show uR (N:Int) A=if A<yo (N:Int)\/z=false then⟨0,0,4⟩else⟨A,N,0⟩ by rw[<-hz];rfl);generalize yo (N:Int)=LV at *;clear hz;by_cases hl:A<LV
      ·go_wp2_with (first|(go_at_call 135;refine(HT.out _).mono ?_;rintro e w' ⟨rfl,rfl⟩)|(go_at_call 49;refine(HS.out _).mono ?_;rintro e w' ⟨rfl,rfl⟩))
       go_ret3
       rw[HG.out,HF.out,if_pos (.inl hl)];exact⟨rfl,ZH _ _⟩
      ·rcases z with _|_
       ·go_wp2_with (first|(go_at_call 135;refine(HT.out _).mono ?_;rintro e w' ⟨rfl,rfl⟩)|(go_at_call 49;refine(HS.out _).mono ?_;rintro e w' ⟨rfl,rfl⟩))
        go_ret3
        rw[HG.out,HF.out,if_pos QJ];exact⟨rfl,ZH _ _⟩
       ·go_wp2_with (first|(go_at_call 135;refine(HT.out _).mono ?_;rintro e w' ⟨rfl,rfl⟩)|(go_at_call 49;refine(HS.out _).mono ?_;rintro e w' ⟨rfl,rfl⟩))
        go_ret3
        rw[HG.out,HF.out,if_neg (by simp[hl])];exact⟨rfl,ZH _ _⟩
theorem Bv(w:World)(x:Int):Ints (w.alloc (.cells #[.int .i64 x] 3)) (some ⟨w.heap.size,0,none⟩) [x]:=by
 exact QIN
theorem QJO{k c:Int}(h:(uR k c).e=0):¬c<yo k/\KD c=true:=by
 unfold uR at h;split at h
 ·simp at h
 ·rename_i hh
  simp only[not_or]at hh;exact⟨hh.1,by simpa using hh.2⟩
theorem Lc:(Tryz.prog.info? 21).map (fun i=>(i.zero,i.size,i.bytes))=some (some (.int .i32 0),1,4):=QX
def jB(base:Nat)(w:World)(v:Value)(xs:List Int):Prop:=w.ownsRow base 21 1 v xs.length (xs.map (Value.int .i32))
theorem jB.alloc{base:Nat}{w:World}{v:Value}{xs:List Int}(h:jB base w v xs)(o:Obj):jB base (w.alloc o) v xs:=World.ownsRow.alloc h o
theorem Sw(w:World)(base c:Nat)(hb:base<=w.heap.size)(hc:c<=17592186044416):jB base (w.alloc (.cells (madeCells #[.int .i32 0] c) 21)) (.slice (some ⟨w.heap.size,0,none⟩) 0 c) []:=
 World.ownsRow_made w _ c hb Qg QEE
theorem gm(l c:Nat)(h:l<=c)(hc:c<=17592186044416)(w:World):
  (Instr.makeSlice 119 (.int .i64 (l:Int)) (.int .i64 (c:Int))).run Tryz.prog w=.ok (.slice (some ⟨w.heap.size,0,none⟩) l c) (w.alloc (.cells (madeCells #[.int .i32 0] c) 21)):=by
 obtain⟨i0,hi,hz0,hz1,hz2⟩:=XR Lc;have:=run_make (P:=Tryz.prog) w 119 21 i0 (.int .i32 0) Tryz.underlying119 hi hz0 .i64 .i64 l c QQ QQ QE3 QQ;rw[hz1,XK,XK,Nat.mul_one]at this;exact this
theorem QUj{ops:Array Oper}{rest:List Oper}{o:Oper}{a:Act}{Q:Exit->Act->World->Prop}{w:World}(hgd:o.guard=none)(s x:Operand)
  (ho:o.op=.call {callee:=.builtin .append,args:=#[s,x],argTypes:=#[119,119]})
  (base:Nat) (v:Value) (xs:List Int) (y:Int) (ad:Addr) (hs:a.eval s=v) (hx:a.eval x=.slice (some ad) 1 1)
  (hown:jB base w v xs) (hc:w.cell? ad=some (.int .i32 y)) (hl:xs.length<17592186044416) (hbase:base<=w.heap.size)
  (h:∀v' w',jB base w' v' (xs++[y])->w.grownBy w' v.ownBlock->wpList Tryz.prog ops Q rest (a.put o.dst v') w'):
  wpList Tryz.prog ops Q (o::rest) a w:=by
 obtain⟨i0,hi,hz0,hz1,hz2⟩:=XR Lc;refine wpList_append_own w hgd s x 119 ho base 21 i0 (.int .i32 0) 1 4 Tryz.underlying119 hi hz0 hz1 hz2 rfl QZ v xs.length _ hs hown ad 1 1 [.int .i32 y] hx rfl ?_ ?_ ?_ ?_ hbase ?_
 ·intro j u hj
  match j with
  | 0=>simp at hj;subst hj;simpa[Addr.add]using hc
  | j+1=>simp at hj
 ·intro u hu;simp at hu;subst hu;rfl
 ·unfold maxLen;omega
 ·omega
 ·intro v' w' h1 h2 _
  refine h v' w' ?_ h2;unfold jB;simpa using h1
theorem jB.conv{base:Nat}{w:World}{v:Value}{xs:List Int}(h:jB base w v xs):(convert 119 9 v).run Tryz.prog w=.ok (.string (runesBytes xs)) w:=by
 rcases h.2 with⟨rfl,h0⟩|⟨g,cap,cur,rfl,hb',hgg,rest⟩
 ·obtain rfl:xs=[]:=ZM h0
  exact run_convert_runes_nil w _ _ _ _ _ Tryz.underlying119 Tryz.underlying21 Tryz.underlying9
 ·have:=run_convert_runes (P:=Tryz.prog) w 119 9 21 ⟨g,0,none⟩ xs.length cap xs (ZB _) Tryz.underlying119 Tryz.underlying21 Tryz.underlying9 (fun j hj=>World.ownsRow.cells h (g:=g) rfl j _ (by simp[hj,List.getD]))
  rwa[List.take_length]at this
theorem jB.form{base:Nat}{w:World}{v:Value}{xs:List Int}(h:jB base w v xs):∃a c,v=.slice a xs.length c:=by
 rcases h.2 with⟨rfl,h0⟩|⟨g,cap,cur,rfl,hb',hgg,rest⟩
 ·exact⟨none,0,by rw[h0]⟩
 ·exact⟨_,cap,rfl⟩
theorem jB.row{base:Nat}{w:World}{v:Value}{xs:List Int}(h:jB base w v xs):∀k,v.ownBlock=some k->base<=k:=fun k hk=>(XC h k hk).1
def qF(l:List Int):Bool:=l.all KD
def yC(l:List Int):ByteArray:=if qF l=true then runesBytes l else⟨#[]⟩
def dD(l:List Int):Int:=if qF l=true then 0 else 1
theorem QYW{l:List Int}{k:Nat}(hk:k<l.length)(h:KD (ix l k)=false):qF l=false:=by
 unfold qF;rw[List.all_eq_false];exact⟨ix l k,Bz hk,by rw[h];simp⟩
theorem sw{l:List Int}(h:∀k,k<l.length->KD (ix l k)=true):qF l=true:=by
 unfold qF;rw[List.all_eq_true];intro x hx;obtain⟨j,hj,rfl⟩:=XN.1 hx;have:=h j hj
 rwa[Ya hj]at this
theorem QX9{c:Int}(h:KD c=true):0<=c/\c<=1114111:=by
 simp[KD]at h;omega
theorem Pe{l:List Int}{k:Nat}(hk:k<l.length):l.take (k+1)=l.take k++[ix l k]:=by
 rw[List.take_add_one,Ya hk,Z8 hk];rfl
def QQw(l:List Int)(w:World)(e:Ending)(w':World):Prop:=e=.returned (.tuple #[.string (yC l),.int .i64 (dD l)])/\Below w.heap.size w w'
theorem Uv(l:List Int)(c:Int):runesBytes (l++[c])=runesBytes l++Utf8.encode c:=by
 unfold runesBytes;rw[List.foldl_append];rfl
def U5(b:Int):Int:=if b=224 then 160 else if b=240 then 144 else 128
def Vo(b:Int):Int:=if b=237 then 159 else if b=244 then 143 else 191
def U0(b:Int):Int:=if b<128 then 1 else if 194<=b/\b<=223 then 2 else if 224<=b/\b<=239 then 3 else if 240<=b/\b<=244 then 4 else 0
def VU(A:List Int)(b:Int):Bool:=if A.length=1 then decide (U5 (ix A 0)<=b/\b<=Vo (ix A 0))else decide (128<=b/\b<=191)
def zJ(A:List Int):ByteArray:=⟨(A.map fun x=>UInt8.ofNat x.toNat).toArray⟩
def Cx(A:List Int):Prop:=∀x∈A,0<=x/\x<256
structure MS where
 ah:List Int
 out:List Int
def MS.brk(m:MS):MS:=if m.ah=[]then m else⟨[],m.out++[65533]⟩
def MS.put(m:MS)(b:Int):MS:=
 if m.ah=[]/\U0 b=0 then⟨[],m.out++[65533]⟩
 else if((m.ah.length+1:Nat):Int)=U0 (ix (m.ah++[b]) 0)then⟨[],m.out++[(gS (zJ (m.ah++[b]))).c]⟩else⟨m.ah++[b],m.out⟩
def MS.take(m:MS)(b:Int):MS:=(if m.ah≠[]/\VU m.ah b=false then m.brk else m).put b
def VE(l:List Int):MS:=l.foldl MS.take ⟨[],[]⟩
theorem MX(b:Int)(h0:0<=b)(h1:b<=255)(w:World):Calls Tryz.prog 133 #[.int .u8 b] w fun e w'=>e=.returned (.tuple #[.int .u8 (U5 b),.int .u8 (Vo b)])/\w=w':=by
 go_enter Tryz.func133,Tryz.ntmps133
 go_wp2
 all_goals
  go_ret2
  refine⟨XD Ending.returned (XD Value.tuple (show#[Value.int .u8 _,Value.int .u8 _]=_ from ?_)),rfl⟩;simp_all[U5,Vo]
theorem Be(b:Int)(h0:0<=b)(h1:b<=255)(w:World):Calls Tryz.prog 111 #[.int .u8 b] w fun e w'=>e=.returned (.int .i64 (U0 b))/\w=w':=by
 have HW:=Zy (show U0 b=if b<128 then 1 else if 194<=b/\b<=223 then 2 else if 224<=b/\b<=239 then 3 else if 240<=b/\b<=244 then 4 else 0 from rfl);go_enter Tryz.func111,Tryz.ntmps111
 go_wp2
 all_goals
  go_ret;refine⟨XE ?_,rfl⟩;rw[HW.out]
  repeat' split
  all_goals first|rfl|(exfalso;omega)
def bv(A:List Int):List Value:=A.map (Value.int .u8)
theorem au(a:Option Addr)(n c:Nat)(A:List Int)(b:Int)(w:World)(hv:KM w a (bv A))(hn:A.length=n)(hA:Cx A)(h0:0<=b)(h1:b<=255):Calls Tryz.prog 109 #[.slice a n c,.int .u8 b] w fun e w'=>e=.returned (.bool (VU A b))/\w=w':=by
 by_cases h:n=1
 ·obtain⟨x,rfl⟩:∃x,A=[x]:=by
   match A,hn.trans h with
   | [x],_=>exact⟨x,rfl⟩
  have hx:=hA x QJ;subst h;obtain⟨bb,oo,rfl,hc⟩:=hv.at (k:=0) (by simp[bv]);have e1:=hc 0 (by simp[bv]);rw[show vx (bv [x]) 0=.int .u8 x from rfl,Yq]at e1;have HS:=Zy (MX x hx.1 QQ);have HF:=Zy (show VU [x] b=decide (U5 x<=b/\b<=Vo x)from rfl);generalize U5 x=lo at *;generalize Vo x=hi at *;clear hc hn;go_enter Tryz.func109,Tryz.ntmps109
  go_wp2_with fail
  refine(HS.out _).mono ?_;rintro e w' ⟨rfl,rfl⟩;exact QIf
 ·have HF:=Zy (show VU A b=decide (128<=b/\b<=191) by unfold VU;rw[if_neg QQ])
  have e1:((n:Int)==1)=false:=by rw[XX];omega
  go_enter Tryz.func109,Tryz.ntmps109
  exact QIf
theorem tT:(Tryz.prog.info? 5).map (fun i=>(i.zero,i.size,i.bytes))=some (some (.int .u8 0),1,1):=QX
structure bZ (w:World) (M:Nat) (av ov:Value) (m:MS):Prop where
 blk:Za w M #[av,ov] 127
 ah:Xc 5 (M+1) w av (bv m.ah)
 out:Own 3 (M+1) w ov m.out
 byt:Cx m.ah
def QXB(M:Nat)(m:MS)(w:World)(e:Ending)(w':World):Prop:=e=.returned (.tuple #[])/\(∃av ov,bZ w' M av ov m)/\Below M w w'
theorem bZ.below{w w':World}{M:Nat}{av ov:Value}{m:MS}(h:bZ w M av ov m)(hb:Below w.heap.size w w'):bZ w' M av ov m:=
 ⟨h.blk.below hb h.blk.lt,h.ah.kept hb,h.out.kept hb,h.byt⟩
theorem bZ.lt{w:World}{M:Nat}{av ov:Value}{m:MS}(h:bZ w M av ov m):M+1<=w.heap.size:=h.blk.lt
theorem Xc.LB{e:TypeId}{base:Nat}{w:World}{a:Option Addr}{n c:Nat}{xs:List Value}(h:Xc e base w (.slice a n c) xs):xs.length=n/\KM w a xs/\(a=none->n=0):=by
 have:=h.vs.get;exact⟨this.1,this.2.2.2.1,this.2.2.2.2⟩
theorem VM(A:List Int):(bv A).length=A.length:=by simp[bv]
theorem QWC{ops:Array Oper}{rest:List Oper}{o:Oper}{a:Act}{Q:Exit->Act->World->Prop}{w:World}(hgd:o.guard=none)(s x:Operand)
  (ho:o.op=.call {callee:=.builtin .append,args:=#[s,x],argTypes:=#[108,108]})
  (base:Nat) (v:Value) (xs:List Int) (y:Int) (ad:Addr) (hs:a.eval s=v) (hx:a.eval x=.slice (some ad) 1 1)
  (hown:Xc 5 base w v (bv xs)) (hc:w.cell? ad=some (.int .u8 y)) (hl:xs.length<17592186044416) (hbase:base<=w.heap.size)
  (h:∀v' w',Xc 5 base w' v' (bv (xs++[y]))->w.grownBy w' v.ownBlock->wpList Tryz.prog ops Q rest (a.put o.dst v') w'):
  wpList Tryz.prog ops Q (o::rest) a w:=by
 obtain⟨i0,hi,hz0,hz1,hz2⟩:=XR tT;refine wpList_append_own w hgd s x 108 ho base 5 i0 (.int .u8 0) 1 1 Tryz.underlying108 hi hz0 hz1 hz2 rfl QZ v (bv xs).length _ hs hown ad 1 1 [.int .u8 y] hx rfl ?_ ?_ ?_ ?_ hbase ?_
 ·intro j u hj
  match j with
  | 0=>simp at hj;subst hj;simpa[Addr.add]using hc
  | j+1=>simp at hj
 ·intro u hu;simp at hu;subst hu;rfl
 ·rw[VM];unfold maxLen;omega
 ·rw[VM];omega
 ·intro v' w' h1 h2 _
  refine h v' w' ?_ h2;unfold Xc;simpa[bv]using h1
theorem Xc.conv{base:Nat}{w:World}{v:Value}{A:List Int}(h:Xc 5 base w v (bv A))(hA:Cx A):(convert 108 9 v).run Tryz.prog w=.ok (.string (zJ A)) w:=by
 rcases h.2 with⟨rfl,h0⟩|⟨g,cap,cur,rfl,hb',hgg,rest⟩
 ·rw[VM]at h0
  obtain rfl:A=[]:=ZM h0;rw[run_convert_bytes_string w _ _ _ _ _ _ Tryz.underlying108 Tryz.underlying5 Tryz.underlying9];rfl
 ·have:=run_convert_bytes_back (P:=Tryz.prog) w 108 9 5 ⟨g,0,none⟩ cap (A.map fun x=>UInt8.ofNat x.toNat) Tryz.underlying108 Tryz.underlying5 Tryz.underlying9 (fun j hj=>by
   have hj2:j<A.length:=by simpa using hj
   have hb:=hA _ (YQ hj2);refine(World.ownsRow.cells h (g:=g) rfl j _ ?_);simp[bv,hj2]
   omega)
  simpa[zJ,VM]using this
theorem QQn{m:MS}(h:m.ah=[]):m.brk=m:=by unfold MS.brk;rw[if_pos h]
theorem mP{m:MS}(h:m.ah≠[]):m.brk=⟨[],m.out++[65533]⟩:=by unfold MS.brk;rw[if_neg h]
theorem MK(M:Nat)(av ov:Value)(m:MS)(w:World)(h:bZ w M av ov m)(ho:m.out.length<=4194304):
  Calls Tryz.prog 110 #[.pointer (some ⟨M,0,none⟩)] w (QXB M m.brk w):=by
 obtain⟨a,n,c,rfl⟩:=h.ah.form;obtain⟨a2,n2,c2,rfl⟩:=h.out.form;obtain⟨g1,g2,g3⟩:=h.ah.LB;rw[VM]at g1;obtain⟨c0,c1,f0,f1⟩:=h.blk.two;have HM:=Zy h;by_cases hn:n=0
 ·have HB:=Zy (QQn (m:=m) (ZM QQ))
  subst hn;clear h g1 g2 g3;go_enter Tryz.func110,Tryz.ntmps110
  go_wp2
  go_end0
  rw[HB.out];exact⟨rfl,⟨_,_,HM.out⟩,ZH _ _⟩
 ·have HB:=Zy (mP (m:=m) (by intro e;rw[e]at g1;simp at g1;omega))
  have i1:(0:Int)<(n:Int):=QQ;have hown:=h.out;have hz:=h.lt;have hBA:=h.blk.alloc (.cells #[.int .i64 65533] 3);have hne:=hown.XP h.blk QZ;have hah:=h.ah.alloc (.cells #[.int .i64 65533] 3);clear h g1 g2 g3 hn;go_enter Tryz.func110,Tryz.ntmps110
  go_wp2_with (at_builtin;refine kL rfl _ _ rfl (M+1) _ m.out [65533] _ 1 1 rfl rfl (hown.alloc _) (Bv _ _) rfl QQ (XJ hz _) ?_;intro v3 w3 hown3 hgrow3 _;obtain⟨a3,n3,c3,rfl⟩:=hown3.form;have hB3:=hBA.grown hgrow3 hne;obtain⟨c0,c1,f0,f1⟩:=hB3.two)
  have hb3:Below M w w3:=((ZR w (.cells #[.int .i64 65533] 3)).mono QQ).grown hgrow3 QDV (fun k hk=>QDj)
  go_end0
  rw[HB.out];refine⟨rfl,⟨.slice none 0 0,.slice a3 n3 c3,(hB3.set 1 (.slice a3 n3 c3)).set 0 (.slice none 0 0),Xc.nil _ _ _,(hown3.setCell (a:=⟨M,1,none⟩) (ZF _) _).setCell (a:=⟨M,0,none⟩) (ZF _) _,fun x hx=>by simp at hx⟩,?_⟩;exact(hb3.setCell (p:=⟨M,1,none⟩) (ZB _) _).setCell (p:=⟨M,0,none⟩) (ZB _) _
theorem Xc.QQr{e e':TypeId}{base mi:Nat}{w w':World}{v v2:Value}{xs:List Value}{us:List Int}(h:Xc e base w v xs)(h2:Own e' mi w v2 us)(he:e≠e')(hg:w.grownBy w' v2.ownBlock):Xc e base w' v xs:=by
 refine⟨h.1,?_⟩;rcases h.2 with hn|⟨g,cap,cur,rfl,hb',hgg,rest⟩
 ·exact .inl hn
 ·refine .inr ⟨g,cap,cur,rfl,hb',?_,rest⟩
  rw[hg.block g (Array.getElem?_eq_some_iff.1 hgg).1 ?_]
  ·exact hgg
  ·intro hv
   rcases h2.2 with⟨rfl,_⟩|⟨g2,cap2,QAU,rfl,hb2,QYt,QjD⟩
   ·simp[Value.ownBlock]at hv
   ·simp only[Value.ownBlock,ZL]at hv
    subst hv;rw[hgg]at QYt;simp at QYt;exact he QYt.2
def MS.mid(m:MS)(b:Int):MS:=if m.ah≠[]/\VU m.ah b=false then m.brk else m
theorem Cx.snoc{A:List Int}{b:Int}(h:Cx A)(h0:0<=b)(h1:b<=255):Cx (A++[b]):=by
 intro x hx;rcases XO.1 hx with h'|h'
 ·exact h x h'
 ·obtain rfl:x=b:=by simpa using h'
  omega
theorem Rf(m:MS):m.brk.ah.length<=m.ah.length/\m.brk.out.length<=m.out.length+1:=by
 unfold MS.brk;split<;>simp
theorem ak(M:Nat)(av ov:Value)(m:MS)(b:Int)(w:World)(h:bZ w M av ov m)(h0:0<=b)(h1:b<=255)(ha:m.ah.length<=3)(ho:m.out.length<=4194300):
  Calls Tryz.prog 77 #[.pointer (some ⟨M,0,none⟩),.int .u8 b] w (QXB M (m.take b) w):=by
 have HM:=Zy h;have HT:=Zy (show m.take b=(m.mid b).put b from rfl);obtain⟨a,n,c,rfl⟩:=h.ah.form;obtain⟨g1,g2,g3⟩:=h.ah.LB;rw[VM]at g1;obtain⟨c0,c1,f0,f1⟩:=h.blk.two;have HFI:=Zy (au a n c m.ah b w g2 g1 h.byt h0 h1);go_enter Tryz.func77,Tryz.ntmps77
 go_upto_region 0 with fail
 go_cut [21] (fun v wx=>v=.bool (decide (m.ah≠[]/\VU m.ah b=false))/\w=wx)
 case first=>
  by_cases hn:n=0
  ·have he:m.ah=[]:=ZM QQ
   have HD:=Zy (show decide (m.ah≠[]/\VU m.ah b=false)=false by simp[he]);subst hn;exact QH9
  ·have i1:(0:Int)<(n:Int):=by omega
   have he:m.ah≠[]:=by intro e;rw[e]at g1;simp at g1;omega
   have HD:=Zy (show decide (m.ah≠[]/\VU m.ah b=false)=!(VU m.ah b) by cases VU m.ah b<;>simp[he]);generalize VU m.ah b=fb at *;clear hn he g1 g2 g3;go_wp2_with fail
   refine HFI.out.mono ?_;rintro e w' ⟨rfl,rfl⟩;exact QH9
 case rest=>
  obtain⟨rfl,rfl⟩:=hcut;go_upto_if 21 with fail
  go_cut [23] (fun v wx=>(∃av ov,bZ wx M av ov (m.mid b))/\Below M w wx)
  case first=>
   by_cases hc:m.ah≠[]/\VU m.ah b=false
   ·have HD:=Zy (show m.mid b=m.brk by unfold MS.mid;rw[if_pos hc])
    rw[show decide (m.ah≠[]/\VU m.ah b=false)=true from decide_eq_true hc];clear hc;go_wp2_with fail
    refine(MK M _ ov m w HM.out QQ).mono ?_;rintro e w' ⟨rfl,hm,hb⟩;go_wp2;go_meet;rw[HD.out];exact⟨hm,hb⟩
   ·have HD:=Zy (show m.mid b=m by unfold MS.mid;rw[if_neg hc])
    rw[show decide (m.ah≠[]/\VU m.ah b=false)=false from decide_eq_false hc];clear hc;go_wp2;go_meet;rw[HD.out];exact⟨⟨_,_,HM.out⟩,ZH _ _⟩
  case rest=>
   obtain⟨⟨av1,ov1,hm1⟩,hb1⟩:=hcut;obtain⟨V,hV⟩:∃V,V=wc:=⟨_,rfl⟩;subst hV;have hl1:(m.mid b).ah.length<=3/\(m.mid b).out.length<=4194301:=by
    have:=Rf m;unfold MS.mid;split<;>omega
   clear HM HFI c0 c1 f0 f1 g1 g2 g3 h ha ho;generalize m.mid b=m1 at *;obtain⟨la,lo⟩:=hl1;obtain⟨a1,n1,k1,rfl⟩:=hm1.ah.form;obtain⟨a2,n2,k2,rfl⟩:=hm1.out.form;obtain⟨g1,g2,g3⟩:=hm1.ah.LB;rw[VM]at g1;have HM:=Zy hm1;have HW:=Zy (Be b h0 h1);obtain⟨c0,c1,f0,f1⟩:=hm1.blk.two;clear hm1;go_upto_region 2 with fail
   go_cut [34] (fun v wx=>v=.bool (decide (m1.ah=[]/\U0 b=0))/\V=wx)
   case first=>
    by_cases hn:n1=0
    ·have he:m1.ah=[]:=ZM QQ
     have HD:=Zy (show decide (m1.ah=[]/\U0 b=0)=(U0 b==0) by rw[Bool.eq_iff_iff];simp[he]);generalize U0 b=wh at *;clear he;subst hn;go_wp2_with fail
     refine(HW.out _).mono ?_;rintro e w' ⟨rfl,rfl⟩;exact QH9
    ·have he:m1.ah≠[]:=by intro e;rw[e]at g1;simp at g1;omega
     have HD:=Zy (show decide (m1.ah=[]/\U0 b=0)=false by simp[he]);have z1:((n1:Int)==0)=false:=by rw[XX];omega
     clear he hn g1 g2 g3;exact QH9
   case rest=>
    obtain⟨rfl,rfl⟩:=hcut;have hz:=HM.out.lt;by_cases hc:m1.ah=[]/\U0 b=0
    ·have HP:=Zy (show m1.put b=⟨[],m1.out++[65533]⟩ by unfold MS.put;rw[if_pos hc])
     have HE:=Zy hc.1;rw[show decide (m1.ah=[]/\U0 b=0)=true from decide_eq_true hc];have hown:=HM.out.out;have hBA:=HM.out.blk.alloc (.cells #[.int .i64 65533] 3);have hne:=hown.XP HM.out.blk QZ;have Qxy:=HM.out.ah.alloc (.cells #[.int .i64 65533] 3);clear hc;go_wp2_with (at_builtin;refine kL rfl _ _ rfl (M+1) _ m1.out [65533] _ 1 1 rfl rfl (hown.alloc _) (Bv _ _) rfl QQ (XJ hz _) ?_;intro v3 w3 hown3 hgrow3 _;obtain⟨a3,n3,c3,rfl⟩:=hown3.form;have hB3:=hBA.grown hgrow3 hne;obtain⟨c0,c1,f0,f1⟩:=hB3.two)
     have hb3:Below M w w3:=(hb1.alloc QEF (.cells #[.int .i64 65533] 3)).grown hgrow3 QDV (fun k hk=>QDj)
     go_end0
     rw[HT.out,HP.out];refine⟨rfl,⟨.slice a1 n1 k1,.slice a3 n3 c3,hB3.set 1 (.slice a3 n3 c3),?_,hown3.setCell (a:=⟨M,1,none⟩) (ZF _) _,fun x hx=>by simp at hx⟩,hb3.setCell (p:=⟨M,1,none⟩) (ZB _) _⟩;have:=Qxy.QQr (hown.alloc (.cells #[.int .i64 65533] 3)) QZ hgrow3;rw[HE.out]at this;exact this.setCell (a:=⟨M,1,none⟩) (ZF _) _
    ·rw[show decide (m1.ah=[]/\U0 b=0)=false from decide_eq_false hc]
     obtain⟨x0,hx0⟩:∃x,ix (m1.ah++[b]) 0=x:=⟨_,rfl⟩;have QY0:=HM.out.byt.snoc h0 h1;have HB2:=Zy QY0;have hxr:0<=x0/\x0<256:=by rw[<-hx0];exact QY0 _ (Bz QJ)
     have HP:=Zy (show m1.put b=if((m1.ah.length+1:Nat):Int)=U0 x0 then⟨[],m1.out++[(gS (zJ (m1.ah++[b]))).c]⟩else⟨m1.ah++[b],m1.out⟩ by unfold MS.put;rw[if_neg hc,hx0]);have hah:=HM.out.ah;have hBA:=HM.out.blk.alloc (.cells #[.int .u8 b] 5);have hne:=hah.XP HM.out.blk QZ;have QZ6:=HM.out.out.alloc (.cells #[.int .u8 b] 5);have HG1:=Zy g1;clear hc g1 g2 g3 QY0;go_upto_region 5 with(at_builtin;refine QWC rfl _ _ rfl (M+1) _ m1.ah b _ rfl rfl (hah.alloc _) ((Za.new _ #[.int .u8 b] 5).one.1) QQ (XJ hz _) ?_;intro v3 w3 QY4 hgrow3;obtain⟨a3,n3,c3,rfl⟩:=QY4.form;have hB3:=hBA.grown hgrow3 hne;obtain⟨c0,c1,f0,f1⟩:=hB3.two)
     have hb3:Below M w w3:=(hb1.alloc QEF (.cells #[.int .u8 b] 5)).grown hgrow3 QDV (fun k hk=>by have:=hah.row k hk;omega);have hM5:bZ (w3.setCell ⟨M,0,none⟩ (.slice a3 n3 c3)) M (.slice a3 n3 c3) (.slice a2 n2 k2) ⟨m1.ah++[b],m1.out⟩:=
      ⟨hB3.set 0 (.slice a3 n3 c3),QY4.setCell (a:=⟨M,0,none⟩) (ZF _) _,(QZ6.beside (hah.alloc (.cells #[.int .u8 b] 5)) QZ hgrow3).setCell (a:=⟨M,0,none⟩) (ZF _) _,HB2.out⟩
     have hb5:=hb3.setCell (p:=⟨M,0,none⟩) (ZB _) (.slice a3 n3 c3);clear QY4 hB3 hBA QZ6 hgrow3 hb3 c0 c1 f0 f1 hah hne;generalize w3.setCell ⟨M,0,none⟩ (.slice a3 n3 c3)=w5 at *;obtain⟨g1,g2,g3⟩:=hM5.ah.LB;rw[VM]at g1;have vD:n3=m1.ah.length+1:=by rw[<-g1];simp
     obtain⟨c0,c1,f0,f1⟩:=hM5.blk.two;obtain⟨bb,oo,rfl,hcl⟩:=g2.at (k:=0) (by rw[VM];simp);have e1:=hcl 0 (by rw[VM];simp);rw[show vx (bv (m1.ah++[b])) 0=.int .u8 x0 by rw[VB (by rw[VM];simp)];simp only[bv,List.getElem_map];rw[<-hx0,Ya QJ],Yq]at e1;have HW0:=Zy (Be x0 hxr.1 QQ);have HM5:=Zy hM5;have i3:(0:Int)<(n3:Int):=QQ;have i4:0<n3:=QQ;have Ha:=Zy vD;clear hcl g1 g2 g3 hM5 vD hx0
     go_cut [66] (fun v wx=>v=.bool ((n3:Int)==U0 x0)/\Below w5.heap.size w5 wx)
     case first=>
      generalize U0 x0=wh at *
      go_region_held3 (fun w'=>w'.cell? ⟨M,0,none⟩=some (.slice (some ⟨bb,oo,none⟩) n3 c3)/\w'.cell? ⟨bb,oo,none⟩=some (.int .u8 x0)/\Below w5.heap.size w5 w') (first|exact⟨c0,e1,(ZH _ _).drew⟩|assumption)
       (first|(go_at_call 111;(refine(HW0.out _).mono ?_;rintro e w9 ⟨rfl,rfl⟩)))
      all_goals
       go_wp2;go_meet;exact⟨rfl,(ZH _ _).drew⟩
     case rest=>
      obtain⟨rfl,hb6⟩:=hcut;have HM6:=Zy (HM5.out.below hb6);have WC:=ZE hb5 (by have:=HM5.out.lt;omega) hb6;have hz6:=HM6.out.lt;clear c0 c1 f0 f1 e1 hb6 hb5 hb1;obtain⟨c0,c1,f0,f1⟩:=HM6.out.blk.two;have hcv:=HM6.out.ah.conv HM6.out.byt;have hown:=HM6.out.out;by_cases he:(n3:Int)=U0 x0
      ·have HP2:=Zy (show m1.put b=⟨[],m1.out++[(gS (zJ (m1.ah++[b]))).c]⟩ by rw[HP.out,if_pos (by rw[<-Ha.out];exact he)])
       have HGT:=Zy (pM (zJ (m1.ah++[b])));generalize gS (zJ (m1.ah++[b]))=g at *;generalize zJ (m1.ah++[b])=sb at *;obtain⟨gc,gn,ge⟩:=g;have e9:((n3:Int)==U0 x0)=true:=by rw[beq_iff_eq];exact he
       rw[e9];clear he;simp only at hcv hown;go_wp2_with fail
       refine(HGT.out _).mono ?_;rintro e w8 ⟨rfl,XH⟩;have HM8:=Zy (HM6.out.below XH);have vC:=HM8.out.lt;have Jp:=ZE WC QQ XH;have xx:=HM8.out.out;simp only at xx;have hBA:=HM8.out.blk.alloc (.cells #[.int .i64 gc] 3);have hne:=xx.XP HM8.out.blk QZ;clear c0 c1 f0 f1 hown;obtain⟨c0,c1,f0,f1⟩:=HM8.out.blk.two;go_wp2_with (at_builtin;refine kL rfl _ _ rfl (M+1) _ m1.out [gc] _ 1 1 rfl rfl (xx.alloc _) (Bv _ _) rfl QQ (XJ vC _) ?_;intro v9 w9 Ej Xm _;obtain⟨a9,n9,c9,rfl⟩:=Ej.form;have U7:=hBA.grown Xm hne;obtain⟨c0,c1,f0,f1⟩:=U7.two)
       have hbb:Below M w w9:=(Jp.alloc QQ (.cells #[.int .i64 gc] 3)).grown Xm QDV (fun k hk=>by have:=xx.row k hk;omega)
       go_end0
       rw[HT.out,HP2.out];refine⟨rfl,⟨.slice none 0 0,.slice a9 n9 c9,(U7.set 1 (.slice a9 n9 c9)).set 0 (.slice none 0 0),Xc.nil _ _ _,(Ej.setCell (a:=⟨M,1,none⟩) (ZF _) _).setCell (a:=⟨M,0,none⟩) (ZF _) _,fun x hx=>by simp at hx⟩,?_⟩;exact(hbb.setCell (p:=⟨M,1,none⟩) (ZB _) _).setCell (p:=⟨M,0,none⟩) (ZB _) _
      ·have HP2:=Zy (show m1.put b=⟨m1.ah++[b],m1.out⟩ by rw[HP.out,if_neg (by rw[<-Ha.out];exact he)])
       have e9:((n3:Int)==U0 x0)=false:=by rw[XX];exact he
       rw[e9];clear he;go_wp2
       go_end0
       rw[HT.out,HP2.out];exact⟨rfl,⟨_,_,HM6.out⟩,WC⟩
def qI(s:ByteArray):List Int:=(List.range s.size).map (bt s)
theorem JK(s:ByteArray):(qI s).length=s.size:=by simp[qI]
theorem mM{s:ByteArray}{k:Nat}(h:k<s.size):ix (qI s) k=bt s k:=by
 rw[Ya (by rw[JK];exact h)];simp[qI]
theorem Sr{l:List Int}{k:Nat}(hk:k<l.length):VE (l.take (k+1))=(VE (l.take k)).take (ix l k):=by
 unfold VE;rw[Pe hk,List.foldl_append];rfl
def MS.ok(m:MS):Prop:=m.ah=[]\/(m.ah.length:Int)<U0 (ix m.ah 0)
theorem QZG(b:Int):0<=U0 b/\U0 b<=4:=by
 unfold U0;repeat' split
 all_goals omega
theorem MS.ok.len{m:MS}(h:m.ok):m.ah.length<=3:=by
 rcases h with h|h
 ·rw[h];simp
 ·have:=QZG (ix m.ah 0);omega
theorem QJl{m:MS}:m.brk.ah=[]:=by
 unfold MS.brk;split
 ·assumption
 ·rfl
theorem fE{m:MS}(b:Int)(h:m.ok):(m.put b).ok:=by
 unfold MS.put;split
 ·exact .inl rfl
 ·rename_i h1
  split
  ·exact .inl rfl
  ·rename_i h2
   refine .inr ?_;simp only[ZN,Xq,List.length_nil];by_cases he:m.ah=[]
   ·rw[he]at h1 h2 ⊢
    simp only[List.nil_append,List.length_nil]at h2 ⊢;rw[show ix [b] 0=b from rfl]at h2 ⊢;have:=QZG b;simp at h1;omega
   ·rcases h with h|h
    ·exact absurd h he
    ·have hl:0<m.ah.length:=Xi.2 he
     rw[YE hl]at h2 ⊢;omega
theorem rJ(m:MS)(b:Int)(h:m.ok):(m.take b).ok:=by
 unfold MS.take;split
 ·exact fE b (.inl QJl)
 ·exact fE b h
theorem rF(l:List Int):(VE l).ok:=by
 unfold VE;have:∀(m:MS),m.ok->(l.foldl MS.take m).ok:=by
  induction l with
  | nil=>intro m h;exact h
  | cons a r ih=>intro m h;rw[List.foldl_cons];exact ih _ (rJ m a h)
 exact this _ (.inl rfl)
theorem RZ(m:MS)(b:Int):(m.put b).out.length<=m.out.length+1:=by
 unfold MS.put;repeat' split
 all_goals simp
theorem take_len(m:MS)(b:Int):(m.take b).out.length<=m.out.length+2:=by
 unfold MS.take;split
 ·have:=RZ m.brk b;have:=Rf m;omega
 ·have:=RZ m b;omega
theorem I4(l:List Int):(VE l).out.length<=2*l.length:=by
 unfold VE;have:∀(m:MS),(l.foldl MS.take m).out.length<=m.out.length+2*l.length:=by
  induction l with
  | nil=>intro m;simp
  | cons a r ih=>
   intro m;rw[List.foldl_cons];have h1:=ih (m.take a);have h2:=take_len m a;simp only[Xq];omega
 simpa using this ⟨[],[]⟩
def CU(s:ByteArray)(w:World)(e:Ending)(w':World):Prop:=∃M av ov,e=.returned (.pointer (some ⟨M,0,none⟩))/\w.heap.size<=M/\bZ w' M av ov (VE (qI s))/\Below w.heap.size w w'
theorem MJ(s:ByteArray)(w:World)(hs:s.size<=2097150):Calls Tryz.prog 54 #[.string s] w (CU s w):=by
 have hM0:bZ (w.alloc (.cells #[.slice none 0 0,.slice none 0 0] 127)) w.heap.size (.slice none 0 0) (.slice none 0 0) (VE ((qI s).take 0)):=
  ⟨Za.new w _ _,Xc.nil _ _ _,Own.nil _ _ _,fun x hx=>by simp[VE]at hx⟩
 have hb0:=ZR w (.cells #[.slice none 0 0,.slice none 0 0] 127);go_enter Tryz.func54,Tryz.ntmps54
 go_upto_region 3 with fail
 generalize(w.alloc (.cells #[.slice none 0 0,.slice none 0 0] 127))=w1 at *
 go_loopw [9] (fun i wr=>∃k:Nat,i=.int .i64 (k:Int)/\k<=s.size/\(∃av ov,bZ wr w.heap.size av ov (VE ((qI s).take k)))/\Below w.heap.size w wr) (fun i _=>s.size-(intOf i).toNat)
 case atStart=>exact⟨0,rfl,QQ,⟨_,_,hM0⟩,hb0⟩
 case round=>
  obtain⟨k,rfl,hk,⟨av,ov,hM⟩,hb⟩:=hrel;by_cases hlt:k<s.size
  ·have i1:(k:Int)<(s.size:Int):=by omega
   have hbi:=EF hlt;obtain⟨r0,r1⟩:=Uf s k;have HT:=Zy (Sr (l:=qI s) (k:=k) (by rw[JK];exact hlt));rw[mM hlt]at HT;have HL:=Zy (I4 ((qI s).take k));rw[Zi,JK]at HL;have HK:=Zy (rF ((qI s).take k)).len;generalize VE ((qI s).take k)=m at *;have HM:=Zy hM;clear hM;go_wp2_with fail
   refine(ak w.heap.size av ov m (bt s k) _ HM.out r0 r1 HK.out (by have:=HL.out;omega)).mono ?_;rintro e w3 ⟨rfl,hM3,hb3⟩;go_wp2;go_roundw
   case rel=>exact⟨k+1,Qy,QQ,by rw[HT.out];exact hM3,hb.trans hb3⟩
   case measure=>simp[intOf];omega
  ·obtain rfl:k=s.size:=by omega
   have HT:=Zy (show(qI s).take s.size=qI s by rw[<-JK s];exact List.take_length);rw[HT.out]at hM;have HM:=Zy hM;clear hM;go_wp2;go_ret;exact⟨_,_,_,rfl,ZB _,HM.out,hb⟩
def JU(s:ByteArray):MS:=VE (qI s)
theorem eP(s:ByteArray):(JU s).out.length<=2*s.size:=by
 have:=I4 (qI s)
 rwa[JK]at this
def QZv(v:Int)(w:World)(e:Ending)(w':World):Prop:=e=.returned (.int .i64 v)/\Below w.heap.size w w'
theorem Bf(s:ByteArray)(w:World)(hs:s.size<=2097150):Calls Tryz.prog 53 #[.string s] w (QZv (if(JU s).out=[]then 0 else 4) w):=by
 have HR:=Zy (MJ s w hs);have HO:=Zy (show VE (qI s)=JU s from rfl);unfold CU at HR;rw[HO.out]at HR;generalize JU s=m at *;obtain⟨v,hv⟩:∃v:Int,(if m.out=[]then(0:Int)else 4)=v:=⟨_,rfl⟩;rw[hv];have HV:=Zy hv;clear hv;go_enter Tryz.func53,Tryz.ntmps53
 go_wp2_with fail
 refine HR.out.mono ?_;rintro e w1 ⟨M,av,ov,rfl,hMw,hM,hb⟩;obtain⟨a2,n2,k2,rfl⟩:=hM.out.form;have g:=hM.out.get.1;obtain⟨c0,c1,-,-⟩:=hM.blk.two;by_cases hn:n2=0
 ·have HE:=Zy (show m.out=[]from ZM QQ)
  subst hn;clear g hM;go_wp2;go_ret;refine⟨?_,hb⟩;rw[<-HV.out,if_pos HE.out];rfl
 ·have HE:=Zy (show m.out≠[] by intro e;rw[e]at g;simp at g;omega)
  have i1:(0:Int)<(n2:Int):=QQ;clear g hM hn;go_wp2;go_ret;refine⟨?_,hb⟩;rw[<-HV.out,if_neg HE.out];rfl
def oZ(q:ByteArray)(L:List Int)(er:Int)(w:World)(e:Ending)(w':World):Prop:=
 ∃v,e=.returned (.tuple #[.string q,v,.int .i64 er])/\Own 3 w.heap.size w' v L/\Below w.heap.size w w'
theorem uS(p s:ByteArray)(w:World)(hp:p.size<=2097150)(h:(JU p).out=[])(hs:4096<s.size):Calls Tryz.prog 33 #[.string p,.string s] w (oZ ⟨#[]⟩ [] 2 w):=by
 have HC:=Zy (Bf p w hp);rw[if_pos h]at HC;have i1:(4096:Int)<(s.size:Int):=QQ;clear h;go_enter Tryz.func33,Tryz.ntmps33
 go_wp2_with fail
 refine HC.out.mono ?_;rintro e w1 ⟨rfl,hb⟩;go_wp2;go_ret3
 exact⟨_,rfl,Own.nil _ _ _,hb⟩
theorem Gg(p s:ByteArray)(w:World)(hp:p.size<=1048576)(h:(JU p).out=[])(hs:s.size<=4096):Calls Tryz.prog 33 #[.string p,.string s] w (oZ (zJ (JU (p++s)).ah) (JU (p++s)).out 0 w):=by
 have HC:=Zy (Bf p w QQ);rw[if_pos h]at HC;have i1:¬(4096:Int)<(s.size:Int):=QQ;have hsz:(p++s).size=p.size+s.size:=ByteArray.size_append;have HR:=Zy (fun w=>MJ (p++s) w QQ);have HO:=Zy (show VE (qI (p++s))=JU (p++s)from rfl);unfold CU at HR;rw[HO.out]at HR;generalize JU (p++s)=m at *;clear h;go_enter Tryz.func33,Tryz.ntmps33
 go_wp2_with fail
 refine HC.out.mono ?_;rintro e w1 ⟨rfl,hb⟩;go_wp2_with fail
 refine(HR.out _).mono ?_;rintro e w2 ⟨M,av,ov,rfl,hMw,hM,hb2⟩;have hbb:=ZE hb hb.size hb2;obtain⟨a1,n1,k1,rfl⟩:=hM.ah.form;obtain⟨a2,n2,k2,rfl⟩:=hM.out.form;have hcv:=fun n=>(hM.ah.drewN n).conv hM.byt
 obtain⟨c0,c1,-,-⟩:=hM.blk.two;have HM:=Zy hM;have hz:=hb.size;have ha1:a1=none->n1=0:=hM.ah.LB.2.2;clear hM;go_upto_region 7 with fail
 go_quiet (fail)
 go_wp2;go_ret3
 exact⟨_,rfl,(HM.out.out.mono QQ).drewN _,below_drewN hbb _⟩
def Kr(n at' off width:Int):Int×Int:=
 if n<0\/200<n\/at'<0\/n<at'\/off<0\/200<off\/width<2\/120<width then(0,1)
 else if at'<off then(at',0)
 else if off+width<=at' then(at'-width+1,0)else(off,0)
theorem qi(n at' off width:Int)(w:World):
  Calls Tryz.prog 64 #[.int .i64 n,.int .i64 at',.int .i64 off,.int .i64 width] w fun e w'=>e=.returned (.tuple #[.int .i64 (Kr n at' off width).1,.int .i64 (Kr n at' off width).2])/\w=w':=by
 go_enter Tryz.func64,Tryz.ntmps64
 go_wp2
 all_goals(go_ret2;refine⟨yH ?_ ?_,rfl⟩<;>(unfold Kr;(repeat' split)<;>first|rfl|omega))
def cellS(c:Int):Int:=if c<32\/c=127\/c=65533 then 63 else c
theorem Sq(c:Int)(w:World):
  Calls Tryz.prog 99 #[.int .i64 c] w fun e w'=>e=.returned (.int .i64 (cellS c))/\w=w':=by
 go_enter Tryz.func99,Tryz.ntmps99
 go_wp2
 all_goals(go_ret;refine⟨XE ?_,rfl⟩;unfold cellS;simp_all;try omega)
def XT(at' off width:Int):Int:=if at'<off then at' else if off+width<=at' then at'-width+1 else off
def Uk(l:List Int)(off width:Int):List Int:=(List.range width.toNat).map fun i=>if off.toNat+i<l.length then cellS (ix l (off.toNat+i))else 32
theorem JN(l:List Int)(off width:Int):(Uk l off width).length=width.toNat:=by simp[Uk]
theorem Df{l:List Int}{off width:Int}{k:Nat}(h:k<width.toNat):(Uk l off width).take (k+1)=(Uk l off width).take k++[if off.toNat+k<l.length then cellS (ix l (off.toNat+k))else 32]:=by
 rw[Xx (by rw[JN];exact h)];simp[Uk]
end Go.Proofs.YtmdnepkekekncaaGreat

/- LiftTopBounds: joined, no condition of its own. -/
import Derived.Test.YtmdcencmiopmmaaGreatTbJoinT
import Derived.Test.YtmdcencmiopmmaaGreatTbJoinJ1
import Derived.Test.YtmdcencmiopmmaaGreatTbJoinJ19
import Derived.Test.YtmdcencmiopmmaaGreatTbJoinJ26
set_option linter.unusedVariables false
set_option linter.unusedSimpArgs false
set_option maxRecDepth 100000
set_option maxHeartbeats 12000000
namespace Go.Proofs.YtmdcencmiopmmaaGreat
open Go.RowKit
theorem OM{c0:Int}{s:ByteArray}{i:Nat}(h:1<=i):xU c0 s (i+1-1)=xU c0 s (i-1)*64+bt s i % 64:=by
 obtain⟨k,rfl⟩:∃k,i=k+1:=⟨i-1,by omega⟩;rfl
theorem fK{b0:Int}(h:192<=b0)(h2:b0<248):∃(N:Nat) (c0:Int),Head b0 N c0/\eY b0=(N:Int)/\om b0=c0/\onV b0=(N:Int):=by
 unfold eY om onV Head;by_cases a:b0<224
 ·exact⟨2,b0 % 32,.inl ⟨h,a,rfl,rfl⟩,by rw[if_neg (by omega),if_neg (by omega),if_pos a];rfl,by rw[if_neg (by omega),if_neg (by omega),if_pos a],by rw[if_neg (by omega),if_neg (by omega),if_pos a];rfl⟩
 ·by_cases b:b0<240
  ·exact⟨3,b0 % 16,.inr (.inl ⟨by omega,b,rfl,rfl⟩),by rw[if_neg (by omega),if_neg (by omega),if_neg a,if_pos b];rfl,by rw[if_neg (by omega),if_neg (by omega),if_neg a,if_pos b],by rw[if_neg (by omega),if_neg (by omega),if_neg a,if_pos b];rfl⟩
  ·exact⟨4,b0 % 8,.inr (.inr ⟨by omega,h2,rfl,rfl⟩),by rw[if_neg (by omega),if_neg (by omega),if_neg a,if_neg b,if_pos h2];rfl,by rw[if_neg (by omega),if_neg (by omega),if_neg a,if_neg b,if_pos h2],by rw[if_neg (by omega),if_neg (by omega),if_neg a,if_neg b,if_pos h2];rfl⟩
theorem Ta{x:Int}(h0:0<=x)(h1:x<=255):(uZ x=true↔x / 64=2):=by simp[uZ];omega
theorem bO(s:ByteArray)(w:World):Calls Tryz.prog 189 #[.string s] w (QYd (gS s) w):=by
 have hE:=isE s;obtain⟨q0,q1⟩:=KQ s 0;by_cases hs:s.size=0
 ·have HG:=QQ (sP hs)
  have hE2:s.toList.isEmpty=true:=by rw[hE];simpa using hs
  clear hE hs;go_enter Tryz.func189,Tryz.ntmps189
  exact QvA
 ·have hsz:0<s.size:=by omega
  have hE2:s.toList.isEmpty=false:=by rw[hE];simpa using hs
  have hb:=Tg hsz;clear hE hs;by_cases h128:bt s 0<128
  ·have HG:=QQ (sS hsz h128)
   have HL:=QQ (jK (bt s 0) q0 q1);rw[show eY (bt s 0)=1 by unfold eY;rw[if_pos h128],show om (bt s 0)=bt s 0 by unfold om;rw[if_pos h128]]at HL;have HS:=QQ (jJ (bt s 0));rw[show NZ (bt s 0)=true by simp[NZ];omega]at HS;have HT:=QQ (vR 1);rw[show NL 1=0 from rfl]at HT;go_enter Tryz.func189,Tryz.ntmps189
   go_wp2_with fail
   refine(HL.out _).mono ?_;rintro e w' ⟨rfl,rfl⟩;go_upto_region 7 with fail
   go_loopw [6,7] (fun cv iv wr=>iv=.int .i64 1/\cv=.int .i64 (bt s 0)/\w=wr) (fun _ _ _=>0)
   case atStart=>exact⟨rfl,rfl,rfl⟩
   case round=>
    obtain⟨rfl,rfl,rfl⟩:=hrel;go_wp2_with (first|(go_at_call 220;refine(HT.out _).mono ?_;rintro e w' ⟨rfl,rfl⟩)|(go_at_call 94;refine(HS.out _).mono ?_;rintro e w' ⟨rfl,rfl⟩))
    go_ret3
    rw[HG.out];exact⟨rfl,Qx _ _⟩
  ·by_cases hbad:bt s 0<192\/248<=bt s 0
   ·have HG:=QQ (sw hsz (by omega))
    have HL:=QQ (jK (bt s 0) q0 q1);rw[show eY (bt s 0)=0 by
     unfold eY;repeat' split
     all_goals first|rfl|omega]at HL
    clear hbad h128;go_enter Tryz.func189,Tryz.ntmps189
    go_wp2_with fail
    refine(HL.out _).mono ?_;rintro e w' ⟨rfl,rfl⟩;exact QvA
   ·obtain⟨N,c0,hH,hN,hC,-⟩:=fK (b0:=bt s 0) (by omega) (by omega)
    obtain⟨n1,n2,n3,n4⟩:=hH.bd;have HH:=QQ hH;have HL:=QQ (jK (bt s 0) q0 q1);rw[hN,hC]at HL;clear hbad h128 hN hC hH;have z1:¬(N:Int)=0:=by omega
    go_enter Tryz.func189,Tryz.ntmps189
    go_wp2_with fail
    refine(HL.out _).mono ?_;rintro e w' ⟨rfl,rfl⟩;go_upto_region 7 with fail
    go_loopw [6,7] (fun cv iv wr=>∃i:Nat,iv=.int .i64 (i:Int)/\cv=.int .i64 (xU c0 s (i-1))/\1<=i/\i<=N/\i<=s.size/\(∀j,1<=j->j<i->uZ (bt s j)=true)/\w=wr) (fun _ iv _=>N-(intOf iv).toNat)
    case atStart=>exact⟨1,rfl,rfl,by omega,by omega,by omega,fun j h1 h2=>by omega,rfl⟩
    case round=>
     obtain⟨i,rfl,rfl,hi1,hiN,his,hcs,rfl⟩:=hrel;have HC:=QQ hcs;have HA:=QQ (OM (c0:=c0) (s:=s) hi1);have HAN:=QQ (show xU c0 s (i-1)=xU c0 s (i-1)from rfl);obtain⟨a1,a2⟩:=iX (s:=s) n3 n4 (k:=i-1) (by omega);clear hcs;by_cases hlt:i<N
     ·have i1:(i:Int)<(N:Int):=by omega
      by_cases hlen:s.size=i
      ·have HG:=QQ (TC HH.out hi1 hlt hlen HC.out)
       have e1:((i:Int)==(s.size:Int))=true:=by rw[beq_iff_eq];omega
       generalize xU c0 s (i-1)=A at *;clear hlen;exact QvA
      ·have hlt2:i<s.size:=by omega
       have e1:((i:Int)==(s.size:Int))=false:=by rw[Qn];omega
       have hbi:=Tg hlt2;obtain⟨r0,r1⟩:=KQ s i;have hor:=QJn (x:=xU c0 s (i-1)) (y:=bt s i % 64) a1 (by omega) (by omega) (by omega);clear hlen;cases hc:uZ (bt s i)with
       | false=>
        have HG:=QQ (gQ HH.out hi1 hlt hlt2 HC.out hc);have g1:(bt s i / 64 !=2)=true:=by
         rw[bne_iff_ne];intro h;rw[(Ta r0 r1).2 h]at hc;cases hc
        clear hc;exact QvA
       | true=>
        have g1:(bt s i / 64 !=2)=false:=by
         rw[bne_eq_false_iff_eq];exact(Ta r0 r1).1 hc
        have HCC:=QQ hc;clear hc;go_wp2;go_roundw
        case rel=>
         refine⟨i+1,by go_num,by rw[HA.out],by omega,by omega,by omega,fun j h1 h2=>?_,by first|rfl|trivial⟩;rcases Qp.1 h2 with h|rfl
         ·exact HC.out j h1 h
         ·exact HCC.out
        case measure=>simp[intOf];omega
     ·obtain rfl:N=i:=by omega
      have HG:=QQ (si HH.out his HC.out);generalize xU c0 s (N-1)=A at *;have HT:=QQ (vR (N:Int));have HS:=QQ (jJ A);obtain⟨z,hz⟩:∃z,NZ A=z:=⟨_,rfl⟩;rw[hz]at HS;have HF:=QQ (show TD (N:Int) A=if A<NL (N:Int)\/z=false then⟨0,0,4⟩else⟨A,N,0⟩ by rw[<-hz];rfl);generalize NL (N:Int)=LV at *;clear hz;by_cases hl:A<LV
      ·go_wp2_with (first|(go_at_call 220;refine(HT.out _).mono ?_;rintro e w' ⟨rfl,rfl⟩)|(go_at_call 94;refine(HS.out _).mono ?_;rintro e w' ⟨rfl,rfl⟩))
       go_ret3
       rw[HG.out,HF.out,if_pos (.inl hl)];exact⟨rfl,Qx _ _⟩
      ·rcases z with _|_
       ·go_wp2_with (first|(go_at_call 220;refine(HT.out _).mono ?_;rintro e w' ⟨rfl,rfl⟩)|(go_at_call 94;refine(HS.out _).mono ?_;rintro e w' ⟨rfl,rfl⟩))
        go_ret3
        rw[HG.out,HF.out,if_pos (by simp)];exact⟨rfl,Qx _ _⟩
       ·go_wp2_with (first|(go_at_call 220;refine(HT.out _).mono ?_;rintro e w' ⟨rfl,rfl⟩)|(go_at_call 94;refine(HS.out _).mono ?_;rintro e w' ⟨rfl,rfl⟩))
        go_ret3
        rw[HG.out,HF.out,if_neg (by simp[hl])];exact⟨rfl,Qx _ _⟩
theorem jw(w:World)(x:Int):Ints (w.alloc (.cells #[.int .i64 x] 3)) (some ⟨w.heap.size,0,none⟩) [x]:=by
 obtain⟨y0,-⟩:=QD.one (QD.new w #[.int .i64 x] 3);refine .inr ⟨_,0,rfl,fun i hi=>?_⟩;obtain rfl:i=0:=by simpa using hi
 exact y0
theorem cK{l:List Int}{k:Nat}(hk:k<l.length):l.take (k+1)=l.take k++[ix l k]:=by
 rw[List.take_add_one,Xt hk,Qr hk];rfl
def Ez(b:Int):Int:=if b=224 then 160 else if b=240 then 144 else 128
def Ex(b:Int):Int:=if b=237 then 159 else if b=244 then 143 else 191
def qZ(b:Int):Int:=if b<128 then 1 else if 194<=b/\b<=223 then 2 else if 224<=b/\b<=239 then 3 else if 240<=b/\b<=244 then 4 else 0
def Vl(A:List Int)(b:Int):Bool:=if A.length=1 then decide (Ez (ix A 0)<=b/\b<=Ex (ix A 0))else decide (128<=b/\b<=191)
def Aj(A:List Int):ByteArray:=⟨(A.map fun x=>UInt8.ofNat x.toNat).toArray⟩
def ae(A:List Int):Prop:=∀x∈A,0<=x/\x<256
structure MS where
 ah:List Int
 out:List Int
def MS.brk(m:MS):MS:=if m.ah=[]then m else⟨[],m.out++[65533]⟩
def MS.put(m:MS)(b:Int):MS:=
 if m.ah=[]/\qZ b=0 then⟨[],m.out++[65533]⟩
 else if((m.ah.length+1:Nat):Int)=qZ (ix (m.ah++[b]) 0)then⟨[],m.out++[(gS (Aj (m.ah++[b]))).c]⟩else⟨m.ah++[b],m.out⟩
def MS.take(m:MS)(b:Int):MS:=(if m.ah≠[]/\Vl m.ah b=false then m.brk else m).put b
def Ub(l:List Int):MS:=l.foldl MS.take ⟨[],[]⟩
theorem FZ(b:Int)(h0:0<=b)(h1:b<=255)(w:World):Calls Tryz.prog 218 #[.int .u8 b] w fun e w'=>e=.returned (.tuple #[.int .u8 (Ez b),.int .u8 (Ex b)])/\w=w':=by
 go_enter Tryz.func218,Tryz.ntmps218
 go_wp2
 all_goals
  go_ret2
  refine⟨XQ Ending.returned (XQ Value.tuple (show#[Value.int .u8 _,Value.int .u8 _]=_ from ?_)),rfl⟩;simp_all[Ez,Ex]
theorem kI(b:Int)(h0:0<=b)(h1:b<=255)(w:World):Calls Tryz.prog 188 #[.int .u8 b] w fun e w'=>e=.returned (.int .i64 (qZ b))/\w=w':=by
 have HW:=QQ (show qZ b=if b<128 then 1 else if 194<=b/\b<=223 then 2 else if 224<=b/\b<=239 then 3 else if 240<=b/\b<=244 then 4 else 0 from rfl);go_enter Tryz.func188,Tryz.ntmps188
 go_wp2
 all_goals
  go_ret;refine⟨ZQ ?_,rfl⟩;rw[HW.out]
  repeat' split
  all_goals first|rfl|(exfalso;omega)
def bv(A:List Int):List Value:=A.map (Value.int .u8)
theorem Ox(a:Option Addr)(n c:Nat)(A:List Int)(b:Int)(w:World)(hv:Y6 w a (bv A))(hn:A.length=n)(hA:ae A)(h0:0<=b)(h1:b<=255):Calls Tryz.prog 186 #[.slice a n c,.int .u8 b] w fun e w'=>e=.returned (.bool (Vl A b))/\w=w':=by
 by_cases h:n=1
 ·obtain⟨x,rfl⟩:∃x,A=[x]:=by
   match A,hn.trans h with
   | [x],_=>exact⟨x,rfl⟩
  have hx:=hA x (by simp);subst h;obtain⟨bb,oo,rfl,hc⟩:=hv.at (k:=0) (by simp[bv]);have e1:=hc 0 (by simp[bv]);rw[show vx (bv [x]) 0=.int .u8 x from rfl,Zp]at e1;have HS:=QQ (FZ x hx.1 (by omega));have HF:=QQ (show Vl [x] b=decide (Ez x<=b/\b<=Ex x)from rfl);generalize Ez x=lo at *;generalize Ex x=hi at *;clear hc hn;go_enter Tryz.func186,Tryz.ntmps186
  go_wp2_with fail
  refine(HS.out _).mono ?_;rintro e w' ⟨rfl,rfl⟩;exact QAQ
 ·have HF:=QQ (show Vl A b=decide (128<=b/\b<=191) by unfold Vl;rw[if_neg (by omega)])
  have e1:((n:Int)==1)=false:=by rw[Qn];omega
  go_enter Tryz.func186,Tryz.ntmps186
  exact QAQ
theorem eD:(Tryz.prog.info? 5).map (fun i=>(i.zero,i.size,i.bytes))=some (some (.int .u8 0),1,1):=by kernel_rfl
structure Oc (w:World) (M:Nat) (av ov:Value) (m:MS):Prop where
 blk:QD w M #[av,ov] 171
 ah:Zk 5 (M+1) w av (bv m.ah)
 out:Own 3 (M+1) w ov m.out
 mO:ae m.ah
def mr(M:Nat)(m:MS)(w:World)(e:Ending)(w':World):Prop:=e=.returned (.tuple #[])/\(∃av ov,Oc w' M av ov m)/\Below M w w'
theorem Oc.below{w w':World}{M:Nat}{av ov:Value}{m:MS}(h:Oc w M av ov m)(hb:Below w.heap.size w w'):Oc w' M av ov m:=
 ⟨h.blk.below hb h.blk.lt,h.ah.kept hb,h.out.kept hb,h.mO⟩
theorem Oc.lt{w:World}{M:Nat}{av ov:Value}{m:MS}(h:Oc w M av ov m):M+1<=w.heap.size:=h.blk.lt
theorem Zk.Ea{e:TypeId}{base:Nat}{w:World}{a:Option Addr}{n c:Nat}{xs:List Value}(h:Zk e base w (.slice a n c) xs):xs.length=n/\Y6 w a xs/\(a=none->n=0):=by
 have:=h.vs.get;exact⟨this.1,this.2.2.2.1,this.2.2.2.2⟩
theorem Ke(A:List Int):(bv A).length=A.length:=by simp[bv]
theorem QYU{ops:Array Oper}{rest:List Oper}{o:Oper}{a:Act}{Q:Exit->Act->World->Prop}{w:World}(hgd:o.guard=none)(s x:Operand)
  (ho:o.op=.call {callee:=.builtin .append,args:=#[s,x],argTypes:=#[156,156]})
  (base:Nat) (v:Value) (xs:List Int) (y:Int) (ad:Addr) (hs:a.eval s=v) (hx:a.eval x=.slice (some ad) 1 1)
  (hown:Zk 5 base w v (bv xs)) (hc:w.cell? ad=some (.int .u8 y)) (hl:xs.length<17592186044416) (hbase:base<=w.heap.size)
  (h:∀v' w',Zk 5 base w' v' (bv (xs++[y]))->w.grownBy w' v.ownBlock->wpList Tryz.prog ops Q rest (a.put o.dst v') w'):
  wpList Tryz.prog ops Q (o::rest) a w:=by
 obtain⟨i0,hi,hz0,hz1,hz2⟩:=ZF eD;refine wpList_append_own w hgd s x 156 ho base 5 i0 (.int .u8 0) 1 1 Tryz.underlying156 hi hz0 hz1 hz2 rfl (by decide) v (bv xs).length _ hs hown ad 1 1 [.int .u8 y] hx rfl ?_ ?_ ?_ ?_ hbase ?_
 ·intro j u hj
  match j with
  | 0=>simp at hj;subst hj;simpa[Addr.add]using hc
  | j+1=>simp at hj
 ·intro u hu;simp at hu;subst hu;rfl
 ·rw[Ke];unfold maxLen;omega
 ·rw[Ke];omega
 ·intro v' w' h1 h2 _
  refine h v' w' ?_ h2;unfold Zk;simpa[bv]using h1
theorem Zk.conv{base:Nat}{w:World}{v:Value}{A:List Int}(h:Zk 5 base w v (bv A))(hA:ae A):(convert 156 9 v).run Tryz.prog w=.ok (.string (Aj A)) w:=by
 rcases h.2 with⟨rfl,h0⟩|⟨g,cap,cur,rfl,hb',hgg,rest⟩
 ·rw[Ke]at h0
  obtain rfl:A=[]:=QH h0;rw[run_convert_bytes_string w _ _ _ _ _ _ Tryz.underlying156 Tryz.underlying5 Tryz.underlying9];rfl
 ·have:=run_convert_bytes_back (P:=Tryz.prog) w 156 9 5 ⟨g,0,none⟩ cap (A.map fun x=>UInt8.ofNat x.toNat) Tryz.underlying156 Tryz.underlying5 Tryz.underlying9 (fun j hj=>by
   have hj2:j<A.length:=by simpa using hj
   have hb:=hA _ (XF hj2);refine(World.ownsRow.cells h (g:=g) rfl j _ ?_);simp[bv,hj2]
   omega)
  simpa[Aj,Ke]using this
theorem gD{m:MS}(h:m.ah=[]):m.brk=m:=by unfold MS.brk;rw[if_pos h]
theorem Tn{m:MS}(h:m.ah≠[]):m.brk=⟨[],m.out++[65533]⟩:=by unfold MS.brk;rw[if_neg h]
theorem FY(M:Nat)(av ov:Value)(m:MS)(w:World)(h:Oc w M av ov m)(ho:m.out.length<=4194304):
  Calls Tryz.prog 187 #[.pointer (some ⟨M,0,none⟩)] w (mr M m.brk w):=by
 obtain⟨a,n,c,rfl⟩:=h.ah.form;obtain⟨a2,n2,c2,rfl⟩:=h.out.form;obtain⟨g1,g2,g3⟩:=h.ah.Ea;rw[Ke]at g1;obtain⟨c0,c1,f0,f1⟩:=h.blk.two;have HM:=QQ h;by_cases hn:n=0
 ·have HB:=QQ (gD (m:=m) (QH (by omega)))
  subst hn;clear h g1 g2 g3;go_enter Tryz.func187,Tryz.ntmps187
  go_wp2
  go_end0
  rw[HB.out];exact⟨rfl,⟨_,_,HM.out⟩,Qx _ _⟩
 ·have HB:=QQ (Tn (m:=m) (by intro e;rw[e]at g1;simp at g1;omega))
  have i1:(0:Int)<(n:Int):=by omega
  have hown:=h.out;have hz:=h.lt;have mD:=h.blk.alloc (.cells #[.int .i64 65533] 3);have hne:=hown.ZA h.blk (by decide);have hah:=h.ah.alloc (.cells #[.int .i64 65533] 3);clear h g1 g2 g3 hn;go_enter Tryz.func187,Tryz.ntmps187
  go_wp2_with (at_builtin;refine OI rfl _ _ rfl (M+1) _ m.out [65533] _ 1 1 rfl rfl (hown.alloc _) (jw _ _) rfl (by omega) (ZV hz _) ?_;intro v3 w3 hown3 hgrow3 _;obtain⟨a3,n3,c3,rfl⟩:=hown3.form;have hB3:=mD.grown hgrow3 hne;obtain⟨c0,c1,f0,f1⟩:=hB3.two)
  have hb3:Below M w w3:=((QC w (.cells #[.int .i64 65533] 3)).mono (by omega)).grown hgrow3 (by rw[QJ];omega) (fun k hk=>by have:=hown.row k hk;omega)
  go_end0
  rw[HB.out];refine⟨rfl,⟨.slice none 0 0,.slice a3 n3 c3,(hB3.set 1 (.slice a3 n3 c3)).set 0 (.slice none 0 0),Zk.nil _ _ _,(hown3.setCell (a:=⟨M,1,none⟩) (Qq _) _).setCell (a:=⟨M,0,none⟩) (Qq _) _,fun x hx=>by simp at hx⟩,?_⟩;exact(hb3.setCell (p:=⟨M,1,none⟩) (QU _) _).setCell (p:=⟨M,0,none⟩) (QU _) _
theorem Zk.gH{e e':TypeId}{base T9:Nat}{w w':World}{v v2:Value}{xs:List Value}{us:List Int}(h:Zk e base w v xs)(h2:Own e' T9 w v2 us)(he:e≠e')(hg:w.grownBy w' v2.ownBlock):Zk e base w' v xs:=by
 refine⟨h.1,?_⟩;rcases h.2 with hn|⟨g,cap,cur,rfl,hb',hgg,rest⟩
 ·exact .inl hn
 ·refine .inr ⟨g,cap,cur,rfl,hb',?_,rest⟩
  rw[hg.block g (Array.getElem?_eq_some_iff.1 hgg).1 ?_]
  ·exact hgg
  ·intro hv
   rcases h2.2 with⟨rfl,_⟩|⟨g2,cap2,Qz7,rfl,hb2,rW,QVa⟩
   ·simp[Value.ownBlock]at hv
   ·simp only[Value.ownBlock,Qv]at hv
    subst hv;rw[hgg]at rW;simp at rW;exact he rW.2
def MS.mid(m:MS)(b:Int):MS:=if m.ah≠[]/\Vl m.ah b=false then m.brk else m
theorem ae.snoc{A:List Int}{b:Int}(h:ae A)(h0:0<=b)(h1:b<=255):ae (A++[b]):=by
 intro x hx;rcases Zz.1 hx with h'|h'
 ·exact h x h'
 ·obtain rfl:x=b:=by simpa using h'
  omega
theorem Mk(m:MS):m.brk.ah.length<=m.ah.length/\m.brk.out.length<=m.out.length+1:=by
 unfold MS.brk;split<;>simp
theorem Oz(M:Nat)(av ov:Value)(m:MS)(b:Int)(w:World)(h:Oc w M av ov m)(h0:0<=b)(h1:b<=255)(ha:m.ah.length<=3)(ho:m.out.length<=4194300):
  Calls Tryz.prog 129 #[.pointer (some ⟨M,0,none⟩),.int .u8 b] w (mr M (m.take b) w):=by
 have HM:=QQ h;have HT:=QQ (show m.take b=(m.mid b).put b from rfl);obtain⟨a,n,c,rfl⟩:=h.ah.form;obtain⟨g1,g2,g3⟩:=h.ah.Ea;rw[Ke]at g1;obtain⟨c0,c1,f0,f1⟩:=h.blk.two;have HFI:=QQ (Ox a n c m.ah b w g2 g1 h.mO h0 h1);go_enter Tryz.func129,Tryz.ntmps129
 go_upto_region 0 with fail
 go_cut [21] (fun v wx=>v=.bool (decide (m.ah≠[]/\Vl m.ah b=false))/\w=wx)
 case first=>
  by_cases hn:n=0
  ·have he:m.ah=[]:=QH (by omega)
   have HD:=QQ (show decide (m.ah≠[]/\Vl m.ah b=false)=false by simp[he]);subst hn;exact QvO
  ·have i1:(0:Int)<(n:Int):=by omega
   have he:m.ah≠[]:=by intro e;rw[e]at g1;simp at g1;omega
   have HD:=QQ (show decide (m.ah≠[]/\Vl m.ah b=false)=!(Vl m.ah b) by cases Vl m.ah b<;>simp[he]);generalize Vl m.ah b=fb at *;clear hn he g1 g2 g3;go_wp2_with fail
   refine HFI.out.mono ?_;rintro e w' ⟨rfl,rfl⟩;exact QvO
 case rest=>
  obtain⟨rfl,rfl⟩:=hcut;go_upto_if 21 with fail
  go_cut [23] (fun v wx=>(∃av ov,Oc wx M av ov (m.mid b))/\Below M w wx)
  case first=>
   by_cases hc:m.ah≠[]/\Vl m.ah b=false
   ·have HD:=QQ (show m.mid b=m.brk by unfold MS.mid;rw[if_pos hc])
    rw[show decide (m.ah≠[]/\Vl m.ah b=false)=true from decide_eq_true hc];clear hc;go_wp2_with fail
    refine(FY M _ ov m w HM.out (by omega)).mono ?_;rintro e w' ⟨rfl,hm,hb⟩;go_wp2;go_meet;rw[HD.out];exact⟨hm,hb⟩
   ·have HD:=QQ (show m.mid b=m by unfold MS.mid;rw[if_neg hc])
    rw[show decide (m.ah≠[]/\Vl m.ah b=false)=false from decide_eq_false hc];clear hc;go_wp2;go_meet;rw[HD.out];exact⟨⟨_,_,HM.out⟩,Qx _ _⟩
  case rest=>
   obtain⟨⟨av1,ov1,hm1⟩,hb1⟩:=hcut;obtain⟨V,hV⟩:∃V,V=wc:=⟨_,rfl⟩;subst hV;have hl1:(m.mid b).ah.length<=3/\(m.mid b).out.length<=4194301:=by
    have:=Mk m;unfold MS.mid;split<;>omega
   clear HM HFI c0 c1 f0 f1 g1 g2 g3 h ha ho;generalize m.mid b=m1 at *;obtain⟨la,lo⟩:=hl1;obtain⟨a1,n1,k1,rfl⟩:=hm1.ah.form;obtain⟨a2,n2,k2,rfl⟩:=hm1.out.form;obtain⟨g1,g2,g3⟩:=hm1.ah.Ea;rw[Ke]at g1;have HM:=QQ hm1;have HW:=QQ (kI b h0 h1);obtain⟨c0,c1,f0,f1⟩:=hm1.blk.two;clear hm1;go_upto_region 2 with fail
   go_cut [34] (fun v wx=>v=.bool (decide (m1.ah=[]/\qZ b=0))/\V=wx)
   case first=>
    by_cases hn:n1=0
    ·have he:m1.ah=[]:=QH (by omega)
     have HD:=QQ (show decide (m1.ah=[]/\qZ b=0)=(qZ b==0) by rw[Bool.eq_iff_iff];simp[he]);generalize qZ b=wh at *;clear he;subst hn;go_wp2_with fail
     refine(HW.out _).mono ?_;rintro e w' ⟨rfl,rfl⟩;exact QvO
    ·have he:m1.ah≠[]:=by intro e;rw[e]at g1;simp at g1;omega
     have HD:=QQ (show decide (m1.ah=[]/\qZ b=0)=false by simp[he]);have z1:((n1:Int)==0)=false:=by rw[Qn];omega
     clear he hn g1 g2 g3;exact QvO
   case rest=>
    obtain⟨rfl,rfl⟩:=hcut;have hz:=HM.out.lt;by_cases hc:m1.ah=[]/\qZ b=0
    ·have HP:=QQ (show m1.put b=⟨[],m1.out++[65533]⟩ by unfold MS.put;rw[if_pos hc])
     have HE:=QQ hc.1;rw[show decide (m1.ah=[]/\qZ b=0)=true from decide_eq_true hc];have hown:=HM.out.out;have mD:=HM.out.blk.alloc (.cells #[.int .i64 65533] 3);have hne:=hown.ZA HM.out.blk (by decide);have QKg:=HM.out.ah.alloc (.cells #[.int .i64 65533] 3);clear hc;go_wp2_with (at_builtin;refine OI rfl _ _ rfl (M+1) _ m1.out [65533] _ 1 1 rfl rfl (hown.alloc _) (jw _ _) rfl (by omega) (ZV hz _) ?_;intro v3 w3 hown3 hgrow3 _;obtain⟨a3,n3,c3,rfl⟩:=hown3.form;have hB3:=mD.grown hgrow3 hne;obtain⟨c0,c1,f0,f1⟩:=hB3.two)
     have hb3:Below M w w3:=(hb1.alloc (by have:=hb1.size;omega) (.cells #[.int .i64 65533] 3)).grown hgrow3 (by rw[QJ];omega) (fun k hk=>by have:=hown.row k hk;omega)
     go_end0
     rw[HT.out,HP.out];refine⟨rfl,⟨.slice a1 n1 k1,.slice a3 n3 c3,hB3.set 1 (.slice a3 n3 c3),?_,hown3.setCell (a:=⟨M,1,none⟩) (Qq _) _,fun x hx=>by simp at hx⟩,hb3.setCell (p:=⟨M,1,none⟩) (QU _) _⟩;have:=QKg.gH (hown.alloc (.cells #[.int .i64 65533] 3)) (by decide) hgrow3;rw[HE.out]at this;exact this.setCell (a:=⟨M,1,none⟩) (Qq _) _
    ·rw[show decide (m1.ah=[]/\qZ b=0)=false from decide_eq_false hc]
     obtain⟨x0,hx0⟩:∃x,ix (m1.ah++[b]) 0=x:=⟨_,rfl⟩;have rq:=HM.out.mO.snoc h0 h1;have HB2:=QQ rq;have lN:0<=x0/\x0<256:=by rw[<-hx0];exact rq _ (Hf (by simp))
     have HP:=QQ (show m1.put b=if((m1.ah.length+1:Nat):Int)=qZ x0 then⟨[],m1.out++[(gS (Aj (m1.ah++[b]))).c]⟩else⟨m1.ah++[b],m1.out⟩ by unfold MS.put;rw[if_neg hc,hx0]);have hah:=HM.out.ah;have mD:=HM.out.blk.alloc (.cells #[.int .u8 b] 5);have hne:=hah.ZA HM.out.blk (by decide);have mQ:=HM.out.out.alloc (.cells #[.int .u8 b] 5);have HG1:=QQ g1;clear hc g1 g2 g3 rq;go_upto_region 5 with(at_builtin;refine QYU rfl _ _ rfl (M+1) _ m1.ah b _ rfl rfl (hah.alloc _) ((QD.new _ #[.int .u8 b] 5).one.1) (by omega) (ZV hz _) ?_;intro v3 w3 rA hgrow3;obtain⟨a3,n3,c3,rfl⟩:=rA.form;have hB3:=mD.grown hgrow3 hne;obtain⟨c0,c1,f0,f1⟩:=hB3.two)
     have hb3:Below M w w3:=(hb1.alloc (by have:=hb1.size;omega) (.cells #[.int .u8 b] 5)).grown hgrow3 (by rw[QJ];omega) (fun k hk=>by have:=hah.row k hk;omega);have hM5:Oc (w3.setCell ⟨M,0,none⟩ (.slice a3 n3 c3)) M (.slice a3 n3 c3) (.slice a2 n2 k2) ⟨m1.ah++[b],m1.out⟩:=
      ⟨hB3.set 0 (.slice a3 n3 c3),rA.setCell (a:=⟨M,0,none⟩) (Qq _) _,(mQ.beside (hah.alloc (.cells #[.int .u8 b] 5)) (by decide) hgrow3).setCell (a:=⟨M,0,none⟩) (Qq _) _,HB2.out⟩
     have hb5:=hb3.setCell (p:=⟨M,0,none⟩) (QU _) (.slice a3 n3 c3);clear rA hB3 mD mQ hgrow3 hb3 c0 c1 f0 f1 hah hne;generalize w3.setCell ⟨M,0,none⟩ (.slice a3 n3 c3)=w5 at *;obtain⟨g1,g2,g3⟩:=hM5.ah.Ea;rw[Ke]at g1;have yN:n3=m1.ah.length+1:=by rw[<-g1];simp
     obtain⟨c0,c1,f0,f1⟩:=hM5.blk.two;obtain⟨bb,oo,rfl,hcl⟩:=g2.at (k:=0) (by rw[Ke];simp);have e1:=hcl 0 (by rw[Ke];simp);rw[show vx (bv (m1.ah++[b])) 0=.int .u8 x0 by rw[UQ (by rw[Ke];simp)];simp only[bv,List.getElem_map];rw[<-hx0,Xt (by simp)],Zp]at e1;have HW0:=QQ (kI x0 lN.1 (by omega));have HM5:=QQ hM5;have i3:(0:Int)<(n3:Int):=by omega
     have i4:0<n3:=by omega
     have Dx:=QQ yN;clear hcl g1 g2 g3 hM5 yN hx0
     go_cut [66] (fun v wx=>v=.bool ((n3:Int)==qZ x0)/\Below w5.heap.size w5 wx)
     case first=>
      generalize qZ x0=wh at *
      go_region_held3 (fun w'=>w'.cell? ⟨M,0,none⟩=some (.slice (some ⟨bb,oo,none⟩) n3 c3)/\w'.cell? ⟨bb,oo,none⟩=some (.int .u8 x0)/\Below w5.heap.size w5 w') (first|exact⟨c0,e1,(Qx _ _).drew⟩|assumption)
       (first|(go_at_call 188;(refine(HW0.out _).mono ?_;rintro e w9 ⟨rfl,rfl⟩)))
      all_goals
       go_wp2;go_meet;exact⟨rfl,(Qx _ _).drew⟩
     case rest=>
      obtain⟨rfl,hb6⟩:=hcut;have HM6:=QQ (HM5.out.below hb6);have qU:=QW hb5 (by have:=HM5.out.lt;omega) hb6;have eG:=HM6.out.lt;clear c0 c1 f0 f1 e1 hb6 hb5 hb1;obtain⟨c0,c1,f0,f1⟩:=HM6.out.blk.two;have hcv:=HM6.out.ah.conv HM6.out.mO;have hown:=HM6.out.out;by_cases he:(n3:Int)=qZ x0
      ·have HP2:=QQ (show m1.put b=⟨[],m1.out++[(gS (Aj (m1.ah++[b]))).c]⟩ by rw[HP.out,if_pos (by rw[<-Dx.out];exact he)])
       have HGT:=QQ (bO (Aj (m1.ah++[b])));generalize gS (Aj (m1.ah++[b]))=g at *;generalize Aj (m1.ah++[b])=sb at *;obtain⟨gc,gn,ge⟩:=g;have e9:((n3:Int)==qZ x0)=true:=by rw[beq_iff_eq];exact he
       rw[e9];clear he;simp only at hcv hown;go_wp2_with fail
       refine(HGT.out _).mono ?_;rintro e w8 ⟨rfl,ZU⟩;have HM8:=QQ (HM6.out.below ZU);have yM:=HM8.out.lt;have YN:=QW qU (by omega) ZU;have WG:=HM8.out.out;simp only at WG;have mD:=HM8.out.blk.alloc (.cells #[.int .i64 gc] 3);have hne:=WG.ZA HM8.out.blk (by decide);clear c0 c1 f0 f1 hown;obtain⟨c0,c1,f0,f1⟩:=HM8.out.blk.two;go_wp2_with (at_builtin;refine OI rfl _ _ rfl (M+1) _ m1.out [gc] _ 1 1 rfl rfl (WG.alloc _) (jw _ _) rfl (by omega) (ZV yM _) ?_;intro v9 w9 AB ZE _;obtain⟨a9,n9,c9,rfl⟩:=AB.form;have Kk:=mD.grown ZE hne;obtain⟨c0,c1,f0,f1⟩:=Kk.two)
       have hbb:Below M w w9:=(YN.alloc (by omega) (.cells #[.int .i64 gc] 3)).grown ZE (by rw[QJ];omega) (fun k hk=>by have:=WG.row k hk;omega)
       go_end0
       rw[HT.out,HP2.out];refine⟨rfl,⟨.slice none 0 0,.slice a9 n9 c9,(Kk.set 1 (.slice a9 n9 c9)).set 0 (.slice none 0 0),Zk.nil _ _ _,(AB.setCell (a:=⟨M,1,none⟩) (Qq _) _).setCell (a:=⟨M,0,none⟩) (Qq _) _,fun x hx=>by simp at hx⟩,?_⟩;exact(hbb.setCell (p:=⟨M,1,none⟩) (QU _) _).setCell (p:=⟨M,0,none⟩) (QU _) _
      ·have HP2:=QQ (show m1.put b=⟨m1.ah++[b],m1.out⟩ by rw[HP.out,if_neg (by rw[<-Dx.out];exact he)])
       have e9:((n3:Int)==qZ x0)=false:=by rw[Qn];exact he
       rw[e9];clear he;go_wp2
       go_end0
       rw[HT.out,HP2.out];exact⟨rfl,⟨_,_,HM6.out⟩,qU⟩
def yR(s:ByteArray):List Int:=(List.range s.size).map (bt s)
theorem UW(s:ByteArray):(yR s).length=s.size:=by simp[yR]
theorem Ti{s:ByteArray}{k:Nat}(h:k<s.size):ix (yR s) k=bt s k:=by
 rw[Xt (by rw[UW];exact h)];simp[yR]
theorem NY{l:List Int}{k:Nat}(hk:k<l.length):Ub (l.take (k+1))=(Ub (l.take k)).take (ix l k):=by
 unfold Ub;rw[cK hk,List.foldl_append];rfl
def MS.ok(m:MS):Prop:=m.ah=[]\/(m.ah.length:Int)<qZ (ix m.ah 0)
theorem iP(b:Int):0<=qZ b/\qZ b<=4:=by
 unfold qZ;repeat' split
 all_goals omega
theorem MS.ok.len{m:MS}(h:m.ok):m.ah.length<=3:=by
 rcases h with h|h
 ·rw[h];simp
 ·have:=iP (ix m.ah 0);omega
theorem tH{m:MS}:m.brk.ah=[]:=by
 unfold MS.brk;split
 ·assumption
 ·rfl
theorem RI{m:MS}(b:Int)(h:m.ok):(m.put b).ok:=by
 unfold MS.put;split
 ·exact .inl rfl
 ·rename_i h1
  split
  ·exact .inl rfl
  ·rename_i h2
   refine .inr ?_;simp only[QE,ZK,List.length_nil];by_cases he:m.ah=[]
   ·rw[he]at h1 h2 ⊢
    simp only[List.nil_append,List.length_nil]at h2 ⊢;rw[show ix [b] 0=b from rfl]at h2 ⊢;have:=iP b;simp at h1;omega
   ·rcases h with h|h
    ·exact absurd h he
    ·have hl:0<m.ah.length:=Zf.2 he
     rw[Xj hl]at h2 ⊢;omega
theorem cZ(m:MS)(b:Int)(h:m.ok):(m.take b).ok:=by
 unfold MS.take;split
 ·exact RI b (.inl tH)
 ·exact RI b h
theorem dU(l:List Int):(Ub l).ok:=by
 unfold Ub;have:∀(m:MS),m.ok->(l.foldl MS.take m).ok:=by
  induction l with
  | nil=>intro m h;exact h
  | cons a r ih=>intro m h;rw[List.foldl_cons];exact ih _ (cZ m a h)
 exact this _ (.inl rfl)
theorem Lc(m:MS)(b:Int):(m.put b).out.length<=m.out.length+1:=by
 unfold MS.put;repeat' split
 all_goals simp
theorem take_len(m:MS)(b:Int):(m.take b).out.length<=m.out.length+2:=by
 unfold MS.take;split
 ·have:=Lc m.brk b;have:=Mk m;omega
 ·have:=Lc m b;omega
theorem Eu(l:List Int):(Ub l).out.length<=2*l.length:=by
 unfold Ub;have:∀(m:MS),(l.foldl MS.take m).out.length<=m.out.length+2*l.length:=by
  induction l with
  | nil=>intro m;simp
  | cons a r ih=>
   intro m;rw[List.foldl_cons];have h1:=ih (m.take a);have h2:=take_len m a;simp only[ZK];omega
 simpa using this ⟨[],[]⟩
def uW(s:ByteArray)(w:World)(e:Ending)(w':World):Prop:=∃M av ov,e=.returned (.pointer (some ⟨M,0,none⟩))/\w.heap.size<=M/\Oc w' M av ov (Ub (yR s))/\Below w.heap.size w w'
theorem FX(s:ByteArray)(w:World)(hs:s.size<=2097150):Calls Tryz.prog 81 #[.string s] w (uW s w):=by
 have hM0:Oc (w.alloc (.cells #[.slice none 0 0,.slice none 0 0] 171)) w.heap.size (.slice none 0 0) (.slice none 0 0) (Ub ((yR s).take 0)):=
  ⟨QD.new w _ _,Zk.nil _ _ _,Own.nil _ _ _,fun x hx=>by simp[Ub]at hx⟩
 have hb0:=QC w (.cells #[.slice none 0 0,.slice none 0 0] 171);go_enter Tryz.func81,Tryz.ntmps81
 go_upto_region 3 with fail
 generalize(w.alloc (.cells #[.slice none 0 0,.slice none 0 0] 171))=w1 at *
 go_loopw [9] (fun i wr=>∃k:Nat,i=.int .i64 (k:Int)/\k<=s.size/\(∃av ov,Oc wr w.heap.size av ov (Ub ((yR s).take k)))/\Below w.heap.size w wr) (fun i _=>s.size-(intOf i).toNat)
 case atStart=>exact⟨0,rfl,by omega,⟨_,_,hM0⟩,hb0⟩
 case round=>
  obtain⟨k,rfl,hk,⟨av,ov,hM⟩,hb⟩:=hrel;by_cases hlt:k<s.size
  ·have i1:(k:Int)<(s.size:Int):=by omega
   have hbi:=Tg hlt;obtain⟨r0,r1⟩:=KQ s k;have HT:=QQ (NY (l:=yR s) (k:=k) (by rw[UW];exact hlt));rw[Ti hlt]at HT;have HL:=QQ (Eu ((yR s).take k));rw[QT,UW]at HL;have HK:=QQ (dU ((yR s).take k)).len;generalize Ub ((yR s).take k)=m at *;have HM:=QQ hM;clear hM;go_wp2_with fail
   refine(Oz w.heap.size av ov m (bt s k) _ HM.out r0 r1 HK.out (by have:=HL.out;omega)).mono ?_;rintro e w3 ⟨rfl,hM3,hb3⟩;go_wp2;go_roundw
   case rel=>exact⟨k+1,by go_num,by omega,by rw[HT.out];exact hM3,hb.trans hb3⟩
   case measure=>simp[intOf];omega
  ·obtain rfl:k=s.size:=by omega
   have HT:=QQ (show(yR s).take s.size=yR s by rw[<-UW s];exact List.take_length);rw[HT.out]at hM;have HM:=QQ hM;clear hM;go_wp2;go_ret;exact⟨_,_,_,rfl,QU _,HM.out,hb⟩
def JS(s:ByteArray):MS:=Ub (yR s)
theorem RV(s:ByteArray):(JS s).out.length<=2*s.size:=by
 have:=Eu (yR s)
 rwa[UW]at this
def iH(v:Int)(w:World)(e:Ending)(w':World):Prop:=e=.returned (.int .i64 v)/\Below w.heap.size w w'
theorem kL(s:ByteArray)(w:World)(hs:s.size<=2097150):Calls Tryz.prog 80 #[.string s] w (iH (if(JS s).out=[]then 0 else 4) w):=by
 have HR:=QQ (FX s w hs);have HO:=QQ (show Ub (yR s)=JS s from rfl);unfold uW at HR;rw[HO.out]at HR;generalize JS s=m at *;obtain⟨v,hv⟩:∃v:Int,(if m.out=[]then(0:Int)else 4)=v:=⟨_,rfl⟩;rw[hv];have HV:=QQ hv;clear hv;go_enter Tryz.func80,Tryz.ntmps80
 go_wp2_with fail
 refine HR.out.mono ?_;rintro e w1 ⟨M,av,ov,rfl,hMw,hM,hb⟩;obtain⟨a2,n2,k2,rfl⟩:=hM.out.form;have g:=hM.out.get.1;obtain⟨c0,c1,-,-⟩:=hM.blk.two;by_cases hn:n2=0
 ·have HE:=QQ (show m.out=[]from QH (by omega))
  subst hn;clear g hM;go_wp2;go_ret;refine⟨?_,hb⟩;rw[<-HV.out,if_pos HE.out];rfl
 ·have HE:=QQ (show m.out≠[] by intro e;rw[e]at g;simp at g;omega)
  have i1:(0:Int)<(n2:Int):=by omega
  clear g hM hn;go_wp2;go_ret;refine⟨?_,hb⟩;rw[<-HV.out,if_neg HE.out];rfl
def aM(q:ByteArray)(L:List Int)(er:Int)(w:World)(e:Ending)(w':World):Prop:=
 ∃v,e=.returned (.tuple #[.string q,v,.int .i64 er])/\Own 3 w.heap.size w' v L/\Below w.heap.size w w'
theorem yY(p s:ByteArray)(w:World)(hp:p.size<=2097150)(h:(JS p).out=[])(hs:4096<s.size):Calls Tryz.prog 47 #[.string p,.string s] w (aM ⟨#[]⟩ [] 2 w):=by
 have HC:=QQ (kL p w hp);rw[if_pos h]at HC;have i1:(4096:Int)<(s.size:Int):=by omega
 clear h;go_enter Tryz.func47,Tryz.ntmps47
 go_wp2_with fail
 refine HC.out.mono ?_;rintro e w1 ⟨rfl,hb⟩;go_wp2;go_ret3
 exact⟨_,rfl,Own.nil _ _ _,hb⟩
theorem Ct(p s:ByteArray)(w:World)(hp:p.size<=1048576)(h:(JS p).out=[])(hs:s.size<=4096):Calls Tryz.prog 47 #[.string p,.string s] w (aM (Aj (JS (p++s)).ah) (JS (p++s)).out 0 w):=by
 have HC:=QQ (kL p w (by omega));rw[if_pos h]at HC;have i1:¬(4096:Int)<(s.size:Int):=by omega
 have hsz:(p++s).size=p.size+s.size:=ByteArray.size_append;have HR:=QQ (fun w=>FX (p++s) w (by omega));have HO:=QQ (show Ub (yR (p++s))=JS (p++s)from rfl);unfold uW at HR;rw[HO.out]at HR;generalize JS (p++s)=m at *;clear h;go_enter Tryz.func47,Tryz.ntmps47
 go_wp2_with fail
 refine HC.out.mono ?_;rintro e w1 ⟨rfl,hb⟩;go_wp2_with fail
 refine(HR.out _).mono ?_;rintro e w2 ⟨M,av,ov,rfl,hMw,hM,hb2⟩;have hbb:=QW hb hb.size hb2;obtain⟨a1,n1,k1,rfl⟩:=hM.ah.form;obtain⟨a2,n2,k2,rfl⟩:=hM.out.form;have hcv:=fun n=>(hM.ah.drewN n).conv hM.mO
 obtain⟨c0,c1,-,-⟩:=hM.blk.two;have HM:=QQ hM;have hz:=hb.size;have ha1:a1=none->n1=0:=hM.ah.Ea.2.2;clear hM;go_upto_region 7 with fail
 go_quiet (fail)
 go_wp2;go_ret3
 exact⟨_,rfl,(HM.out.out.mono (by omega)).drewN _,below_drewN hbb _⟩
def JB(n at' off width:Int):Int×Int:=
 if n<0\/200<n\/at'<0\/n<at'\/off<0\/200<off\/width<2\/120<width then(0,1)
 else if at'<off then(at',0)
 else if off+width<=at' then(at'-width+1,0)else(off,0)
theorem VI(n at' off width:Int)(w:World):
  Calls Tryz.prog 91 #[.int .i64 n,.int .i64 at',.int .i64 off,.int .i64 width] w fun e w'=>e=.returned (.tuple #[.int .i64 (JB n at' off width).1,.int .i64 (JB n at' off width).2])/\w=w':=by
 go_enter Tryz.func91,Tryz.ntmps91
 go_wp2
 all_goals(go_ret2;refine⟨qC ?_ ?_,rfl⟩<;>(unfold JB;(repeat' split)<;>first|rfl|omega))
def cellS(c:Int):Int:=if c<32\/c=127\/c=65533 then 63 else c
theorem Me(c:Int)(w:World):
  Calls Tryz.prog 67 #[.int .i64 c] w fun e w'=>e=.returned (.int .i64 (cellS c))/\w=w':=by
 go_enter Tryz.func67,Tryz.ntmps67
 go_wp2
 all_goals(go_ret;refine⟨ZQ ?_,rfl⟩;unfold cellS;simp_all;try omega)
def Zj(at' off width:Int):Int:=if at'<off then at' else if off+width<=at' then at'-width+1 else off
def Je(l:List Int)(off width:Int):List Int:=(List.range width.toNat).map fun i=>if off.toNat+i<l.length then cellS (ix l (off.toNat+i))else 32
theorem Yy(l:List Int)(off width:Int):(Je l off width).length=width.toNat:=by simp[Je]
theorem vN{l:List Int}{off width:Int}{k:Nat}(h:k<width.toNat):(Je l off width).take (k+1)=(Je l off width).take k++[if off.toNat+k<l.length then cellS (ix l (off.toNat+k))else 32]:=by
 rw[Qo (by rw[Yy];exact h)];simp[Je]
end Go.Proofs.YtmdcencmiopmmaaGreat

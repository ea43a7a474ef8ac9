/- joined, no condition of its own. -/
import Derived.Test.YtmdnepkekekncaaGreatJfJ4
set_option linter.unusedVariables false
set_option linter.unusedSimpArgs false
set_option maxRecDepth 100000
set_option maxHeartbeats 12000000
namespace Go.Proofs.YtmdnepkekekncaaGreat
open Go.RowKit
def Fh(r:Option (Int×Bool)):Int:=match r with|some x=>x.1|none=>0
def qX(r:Option (Int×Bool)):Bool:=match r with|some x=>x.2|none=>false
def bO(r:Option (Int×Bool)):Int:=match r with|some x=>0|none=>5
def YL(r:Option (Int×Bool))(w:World)(e:Ending)(w':World):Prop:=e=.returned (.tuple #[.agg #[.int .i64 (Fh r),.bool (qX r)],.int .i64 (bO r)])/\Below w.heap.size w w'
def Un(n k:Nat)(m:Int)(op:Bool):Option (Int×Bool):=if(if op then(n:Int)else n-1)<=k then none else some (min (if op then(n:Int)else n-1) (k+m),false)
theorem OL(a:Option Addr)(n c:Nat)(k:Nat)(m:Int)(op:Bool)(w:World)(hn2:n<=4096)(hk:k<=n)(hm:1<=m)(hm2:m<=999):
  Calls Tryz.prog 183 #[KJ a n c k m op] w (YL (Un n k m op) w):=by
 unfold KJ;have hB:=(Za.new w #[.slice a n c,.int .i64 (k:Int),.int .i64 m,.bool op] 260).alloc (.cells #[.int .i64 0,.bool false] 262);obtain⟨c0,c1,c2,c3⟩:=hB.four;have hP:=Za.new (w.alloc (.cells #[.slice a n c,.int .i64 (k:Int),.int .i64 m,.bool op] 260)) #[.int .i64 0,.bool false] 262;rw[Zu]at hP;have hacc:=Zo w (.cells #[.slice a n c,.int .i64 (k:Int),.int .i64 m,.bool op] 260) (.cells #[.int .i64 0,.bool false] 262);cases op
 ·by_cases hf:(n:Int)-1<=k
  ·have HR:=Zy (show Un n k m false=none by rw[Un,if_pos QEB])
   exact QL2
  ·have HR:=Zy (show Un n k m false=some (min ((n:Int)-1) (k+m),false) by rw[Un,if_neg QEB];rfl)
   rcases(show(n:Int)-1<=k+m\/k+m<(n:Int)-1 from QQ)with h1|h1
   ·have HM:=Zy (show min ((n:Int)-1) (k+m)=(n:Int)-1 from QQ)
    go_enter Tryz.func183,Tryz.ntmps183
    go_wp2;rw[HR.out,HM.out];have hG:=(hP.set 0 (.int .i64 ((n:Int)-1))).set 1 (.bool false);obtain⟨q0,q1,-,-⟩:=Za.two hG;refine ZC (v:=.tuple #[.agg #[.int .i64 ((n:Int)-1),.bool false],.int .i64 0]) Qm rfl ⟨rfl,?_⟩;exact QGY
   ·have HM:=Zy (show min ((n:Int)-1) (k+m)=k+m from QQ)
    exact QL0
 ·by_cases hf:(n:Int)<=k
  ·have HR:=Zy (show Un n k m true=none by rw[Un,if_pos QEB])
   exact QL2
  ·have HR:=Zy (show Un n k m true=some (min ((n:Int)) (k+m),false) by rw[Un,if_neg QEB];rfl)
   rcases(show(n:Int)<=k+m\/k+m<(n:Int) from QQ)with h1|h1
   ·have HM:=Zy (show min ((n:Int)) (k+m)=(n:Int) from QQ)
    go_enter Tryz.func183,Tryz.ntmps183
    go_wp2;rw[HR.out,HM.out];have hG:=(hP.set 0 (.int .i64 ((n:Int)))).set 1 (.bool false);obtain⟨q0,q1,-,-⟩:=Za.two hG;refine ZC (v:=.tuple #[.agg #[.int .i64 ((n:Int)),.bool false],.int .i64 0]) Qm rfl ⟨rfl,?_⟩;exact QGY
   ·have HM:=Zy (show min ((n:Int)) (k+m)=k+m from QQ)
    exact QL0
theorem OM(a:Option Addr)(n c:Nat)(l:List Int)(k:Nat)(m:Int)(op:Bool)(w:World)(hl:Ints w a l)(hn:l.length=n)(hn2:n<=4096):
  Calls Tryz.prog 184 #[KJ a n c k m op] w (QZj (Ku l) w):=by
 unfold KJ;have HN:=Zy hn;clear hn;have hB:=Za.new w #[.slice a n c,.int .i64 (k:Int),.int .i64 m,.bool op] 260;obtain⟨c0,c1,c2,c3⟩:=hB.four;have hacc:=ZR w (.cells #[.slice a n c,.int .i64 (k:Int),.int .i64 m,.bool op] 260);have hI:=hl.below hacc;go_enter Tryz.func184,Tryz.ntmps184
 go_wp2
 go_loop [8] (fun i=>∃j:Nat,i=.int .i64 (j:Int)/\j<=n/\∀t,t<j->X6 (ix l t) true=0) (fun i=>n-(intOf i).toNat)
 case atStart=>exact⟨0,rfl,QQ,fun t h=>QQ⟩
 case round=>
  obtain⟨j,rfl,hj,hno⟩:=hrel;have HO:=Zy hno;clear hno;by_cases hlt:j<n
  ·obtain⟨b1,o1,rfl,hc⟩:=hI.at (k:=j) QW
   have e1:=hc j QW;have hkr:=uV (ix l j) true;clear hc hl hI;by_cases hz:X6 (ix l j) true=0
   ·have hz':(X6 (ix l j) true !=0)=false:=by simpa using hz
    have HZ:=Zy hz;clear hz;go_wp2_with ((go_at_call 151);refine(Jj _ _ _).mono ?_;rintro e w' ⟨rfl,rfl⟩)
    go_round
    case rel=>exact⟨j+1,Qy,QQ,fun t h=>by
     rcases XZ.1 h with h|rfl
     ·exact HO.out t h
     ·exact HZ.out⟩
    case measure=>simp[intOf];omega
   ·have hz':(X6 (ix l j) true !=0)=true:=by simpa using hz
    have HF:=Zy (show Ku l=(j:Int) by
     unfold Ku;split
     ·rename_i r h
      obtain⟨h1,h2,h3,h4⟩:=Yo h;simp at h3;rcases XL r j with h|h|h
      ·exact absurd (HO.out r h) h3
      ·rw[h]
      ·have:=h4 j QQ h;simp at this;exact absurd this hz
     ·rename_i h
      have:=Vn h j QQ QB;simp at this;exact absurd this hz)
    clear hz;go_wp2_with ((go_at_call 151);refine(Jj _ _ _).mono ?_;rintro e w' ⟨rfl,rfl⟩)
    go_ret;exact⟨by rw[HF.out];rfl,hacc⟩
  ·obtain rfl:j=n:=by omega
   have HF:=Zy (show Ku l=max 0 ((j:Int)-1) by
     unfold Ku;split
     ·rename_i r h
      obtain⟨h1,h2,h3,h4⟩:=Yo h;simp at h3;exact absurd (HO.out r (by rw[HN.out]at h2;omega)) h3
     ·rw[HN.out])
   clear hI hl;rcases(show j=0\/0<j from QQ)with h0|h0
   ·subst h0
    go_wp2;go_ret;exact⟨by rw[HF.out];rfl,hacc⟩
   ·have HM:=Zy (show max 0 ((j:Int)-1)=(j:Int)-1 from QQ)
    have h1:0<=(j:Int)-1:=QQ;go_wp2
    all_goals
     go_ret;exact⟨XE (by rw[HF.out];omega),hacc⟩
def Uj(l:List Int)(k:Nat)(m:Nat)(op big:Bool):Option (Int×Bool):=
 if op then some (Yb (JO l big) m k,false)else if min (Yb (JO l big) m k) ((l.length:Int)-1)=k then none else some (min (Yb (JO l big) m k) ((l.length:Int)-1),false)
def WO(l:List Int)(k:Nat)(m:Nat)(op big:Bool):Option (Int×Bool):=
 if op=false/\Yb (Vi l big) m k=k then none else some (Yb (Vi l big) m k,true)
theorem R8{l:List Int}{k m:Nat}{big:Bool}:Uj l k m true big=some (Yb (JO l big) m k,false):=if_pos rfl
theorem De{l:List Int}{k m:Nat}{big:Bool}{t:Int}(h:min (Yb (JO l big) m k) ((l.length:Int)-1)=t):Uj l k m false big=if t=k then none else some (t,false):=by subst h;exact if_neg QJ
theorem Bd(a:Option Addr)(n c:Nat)(l:List Int)(k m:Nat)(op big:Bool)(w:World)(hl:Ints w a l)(hn:l.length=n)(hn2:n<=4096)(hk:k<=n)(h0:1<=n)(hm:m<=1000):
  Calls Tryz.prog 186 #[KJ a n c k (m:Int) op,.bool big] w (YL (Uj l k m op big) w):=by
 unfold KJ;have HB:=Zy (KH (f:=JO l big) (lo:=0) (hi:=(n:Int)) (fun x h0 h1=>by rw[<-hn];exact yf l big x h0 QQ) (k:=(k:Int)) QQ QQ m);have HN:=Zy hn;clear hn;have hB:=(Za.new w #[.slice a n c,.int .i64 (k:Int),.int .i64 (m:Int),.bool op] 260).alloc (.cells #[.int .i64 0,.bool false] 262);obtain⟨c0,c1,c2,c3⟩:=hB.four;have hP:=Za.new (w.alloc (.cells #[.slice a n c,.int .i64 (k:Int),.int .i64 (m:Int),.bool op] 260)) #[.int .i64 0,.bool false] 262;rw[Zu]at hP;have hacc:=Zo w (.cells #[.slice a n c,.int .i64 (k:Int),.int .i64 (m:Int),.bool op] 260) (.cells #[.int .i64 0,.bool false] 262);have hI:=hl.below hacc;cases op
 ·have hb:=HB.out
  obtain⟨t,ht⟩:∃t,Yb (JO l big) m k=t:=⟨_,rfl⟩;rw[ht]at hb;obtain⟨b1,b2⟩:=hb;have HT:=Zy ht;clear ht;rcases(show t<=(n:Int)-1\/(n:Int)-1<t from QQ)with h1|h1
  ·have HW:=Zy (De (l:=l) (k:=k) (m:=m) (big:=big) (t:=t) (by rw[HT.out,HN.out];omega))
   by_cases hk2:t=(k:Int)
   ·have HR:=Zy (show Uj l k m false big=none by rw[HW.out,if_pos hk2])
    have hb':((t:Int)==(k:Int))=true:=QD5;exact QLn
   ·have HR:=Zy (show Uj l k m false big=some (t,false) by rw[HW.out,if_neg hk2])
    have hb':((t:Int)==(k:Int))=false:=QD5;clear hk2;go_enter Tryz.func186,Tryz.ntmps186
    go_wp2_with ((go_at_call 185);refine(Jm a n c l k m _ big _ hI HN.out hn2 hk hm).mono ?_;rintro e w2 ⟨rfl,hb2⟩;rw[HT.out];have hB2:=hB.below hb2 hB.lt;obtain⟨d0,d1,d2,d3⟩:=hB2.four;have hP2:=hP.below hb2 hP.lt;obtain⟨s0,s1,s2,s3⟩:=hP2.two;have Z0:=ZE hacc QY hb2)
    rw[HR.out];have hG:=(hP2.set 0 (.int .i64 (t))).set 1 (.bool false);obtain⟨q0,q1,-,-⟩:=Za.two hG;refine ZC (v:=.tuple #[.agg #[.int .i64 (t),.bool false],.int .i64 0]) ZK rfl ⟨rfl,?_⟩;exact QF6
  ·have HW:=Zy (De (l:=l) (k:=k) (m:=m) (big:=big) (t:=(n:Int)-1) (by rw[HT.out,HN.out];omega))
   by_cases hk2:(n:Int)-1=(k:Int)
   ·have HR:=Zy (show Uj l k m false big=none by rw[HW.out,if_pos hk2])
    have hb':(((n:Int)-1:Int)==(k:Int))=true:=QD5;exact QLn
   ·have HR:=Zy (show Uj l k m false big=some ((n:Int)-1,false) by rw[HW.out,if_neg hk2])
    have hb':(((n:Int)-1:Int)==(k:Int))=false:=QD5;clear hk2;go_enter Tryz.func186,Tryz.ntmps186
    go_wp2_with ((go_at_call 185);refine(Jm a n c l k m _ big _ hI HN.out hn2 hk hm).mono ?_;rintro e w2 ⟨rfl,hb2⟩;rw[HT.out];have hB2:=hB.below hb2 hB.lt;obtain⟨d0,d1,d2,d3⟩:=hB2.four;have hP2:=hP.below hb2 hP.lt;obtain⟨s0,s1,s2,s3⟩:=hP2.two;have Z0:=ZE hacc QY hb2)
    rw[HR.out];have hG:=(hP2.set 0 (.int .i64 ((n:Int)-1))).set 1 (.bool false);obtain⟨q0,q1,-,-⟩:=Za.two hG;refine ZC (v:=.tuple #[.agg #[.int .i64 ((n:Int)-1),.bool false],.int .i64 0]) ZK rfl ⟨rfl,?_⟩;exact QF6
 ·have HR:=Zy (R8 (l:=l) (k:=k) (m:=m) (big:=big))
  go_enter Tryz.func186,Tryz.ntmps186
  go_wp2_with ((go_at_call 185);refine(Jm a n c l k m _ big _ hI HN.out hn2 hk hm).mono ?_;rintro e w2 ⟨rfl,hb2⟩;have hB2:=hB.below hb2 hB.lt;obtain⟨d0,d1,d2,d3⟩:=hB2.four;have hP2:=hP.below hb2 hP.lt;obtain⟨s0,s1,s2,s3⟩:=hP2.two;have Z0:=ZE hacc QY hb2)
  rw[HR.out];have hG:=(hP2.set 0 (.int .i64 (Yb (JO l big) m k))).set 1 (.bool false);obtain⟨q0,q1,-,-⟩:=Za.two hG;refine ZC (v:=.tuple #[.agg #[.int .i64 (Yb (JO l big) m k),.bool false],.int .i64 0]) ZK rfl ⟨rfl,?_⟩;exact QF6
theorem EA(a:Option Addr)(n c:Nat)(l:List Int)(k m:Nat)(op big:Bool)(w:World)(hl:Ints w a l)(hn:l.length=n)(hn2:n<=4096)(hk:k<=n)(h0:1<=n)(hm:m<=1000):
  Calls Tryz.prog 187 #[KJ a n c k (m:Int) op,.bool big] w (YL (WO l k m op big) w):=by
 unfold KJ;have HB:=Zy (KH (f:=Vi l big) (lo:=0) (hi:=(n:Int)) (fun x h0 h1=>by rw[<-hn];exact Gh l big x h0 QQ) (k:=(k:Int)) QQ QQ m);have HN:=Zy hn;clear hn;have hB:=(Za.new w #[.slice a n c,.int .i64 (k:Int),.int .i64 (m:Int),.bool op] 260).alloc (.cells #[.int .i64 0,.bool false] 262);obtain⟨c0,c1,c2,c3⟩:=hB.four;have hP:=Za.new (w.alloc (.cells #[.slice a n c,.int .i64 (k:Int),.int .i64 (m:Int),.bool op] 260)) #[.int .i64 0,.bool false] 262;rw[Zu]at hP;have hacc:=Zo w (.cells #[.slice a n c,.int .i64 (k:Int),.int .i64 (m:Int),.bool op] 260) (.cells #[.int .i64 0,.bool false] 262);have hI:=hl.below hacc;obtain⟨t,ht⟩:∃t,Yb (Vi l big) m k=t:=⟨_,rfl⟩;have HT:=Zy ht;clear ht;cases op
 ·by_cases hk2:t=(k:Int)
  ·have HR:=Zy (show WO l k m false big=none by rw[WO,HT.out,if_pos ⟨rfl,hk2⟩])
   have hb':(t==(k:Int))=true:=QD5;clear hk2;go_enter Tryz.func187,Tryz.ntmps187
   go_wp2_with ((go_at_call 185);refine(VS a n c l k m _ big _ hI HN.out hn2 hk hm).mono ?_;rintro e w2 ⟨rfl,hb2⟩;rw[HT.out];have hB2:=hB.below hb2 hB.lt;obtain⟨d0,d1,d2,d3⟩:=hB2.four;have hP2:=hP.below hb2 hP.lt;obtain⟨s0,s1,s2,s3⟩:=hP2.two;have Z0:=ZE hacc QY hb2)
   rw[HR.out];have hG:=(hP2.set 0 (.int .i64 (0))).set 1 (.bool false);obtain⟨q0,q1,-,-⟩:=Za.two hG;refine ZC (v:=.tuple #[.agg #[.int .i64 (0),.bool false],.int .i64 5]) QDd rfl ⟨rfl,?_⟩;exact QF6
  ·have HR:=Zy (show WO l k m false big=some (t,true) by rw[WO,HT.out,if_neg (fun h=>hk2 h.2)])
   have hb':(t==(k:Int))=false:=QD5;clear hk2;exact QLo
 ·have HR:=Zy (show WO l k m true big=some (t,true) by rw[WO,HT.out,if_neg (fun h=>by cases h.1)])
  exact QLo
end Go.Proofs.YtmdnepkekekncaaGreat
namespace Go.Proofs.YtmdnepkekekncaaGreat
open Go.RowKit Go.Maps
theorem jo{ops:Array Oper}{rest:List Oper}{o:Oper}{a:Act}{Q:Exit->Act->World->Prop}{w:World}(hg:o.guard=none)(m x:Operand)
  (hop:o.op=Op.lookup 283 m x false) {b n:Nat} {f:Int->Value} (hmap:Ve w b n f) {k:Int} (hk:qg k) {v:Value} (hv:f k=v) (hm:a.eval m=.map (some b)) (hx:a.eval x=.int .i64 k)
  (hK:wpList Tryz.prog ops Q rest (a.put o.dst v) w):wpList Tryz.prog ops Q (o::rest) a w:=by
 subst hv;refine wpList_plain hg fun K' hK'=>?_
 have hrun:=hmap.lookup (pJ w) hk;unfold Oper.wp;simp[execOp,hop,hm,hx,hrun,Result.andThen];exact hK' _ _ hK
theorem IG{ops:Array Oper}{rest:List Oper}{o:Oper}{a:Act}{Q:Exit->Act->World->Prop}{w:World}(hg:o.guard=none)(m x v:Operand)
  (hop:o.op=Op.mapUpdate 283 m x v) {b n:Nat} {f:Int->Value} (hmap:Ve w b n f) (hn:n<=1000000000) {k:Int} (hk:qg k) {val:Value}
  (hm:a.eval m=.map (some b)) (hx:a.eval x=.int .i64 k) (hv:a.eval v=val)
  (hK:∀w',Ve w' b (n+1) (fun y=>if y=k then val else f y)->w.grownBy w' (some b)->wpList Tryz.prog ops Q rest (a.put o.dst undef) w'):wpList Tryz.prog ops Q (o::rest) a w:=by
 refine wpList_plain hg fun K' hK'=>?_
 obtain⟨w',hrun,r1,r2⟩:=hmap.update hn hk val;unfold Oper.wp;simp[execOp,hop,hm,hx,hv,hrun,Result.andThen];exact hK' _ _ (hK w' r1 r2)
theorem QJp{ops:Array Oper}{rest:List Oper}{o:Oper}{a:Act}{Q:Exit->Act->World->Prop}{w:World}(hgd:o.guard=none)(s x:Operand)
  (ho:o.op=.call {callee:=.builtin .append,args:=#[s,x],argTypes:=#[22,22]})
  (base:Nat) (v:Value) (xs:List Int) (y:Int) (ad:Addr) (hs:a.eval s=v) (hx:a.eval x=.slice (some ad) 1 1)
  (hown:Own 3 base w v xs) (hc:w.cell? ad=some (.int .i64 y)) (hl:xs.length<17592186044416) (hbase:base<=w.heap.size)
  (h:∀v' w',Own 3 base w' v' (xs++[y])->w.grownBy w' v.ownBlock->(v'.ownBlock=v.ownBlock\/v'.ownBlock=some w.heap.size)->wpList Tryz.prog ops Q rest (a.put o.dst v') w'):
  wpList Tryz.prog ops Q (o::rest) a w:=by
 obtain⟨i0,hi,hz0,hz1,hz2⟩:=XR JH;refine wpList_append_own_at w hgd s x 22 ho base 3 i0 (.int .i64 0) 1 8 Tryz.underlying22 hi hz0 hz1 hz2 rfl QZ v xs.length _ hs hown ad 1 1 [.int .i64 y] hx rfl ?_ ?_ ?_ ?_ hbase ?_
 ·intro j u hj
  match j with
  | 0=>simp at hj;subst hj;simpa[Addr.add]using hc
  | j+1=>simp at hj
 ·intro u hu;simp at hu;subst hu;rfl
 ·unfold maxLen;omega
 ·omega
 ·intro v' w' h1 h2 h3 h4
  refine h v' w' ?_ h2 h4;unfold Own;simpa using h1
theorem lI(w:World)(a:Addr)(u:Value):w.grownBy (w.setCell a u) (some a.block):=
 ⟨rfl,rfl,rfl,QJ,fun k _ hk=>heap_setCell_other w a k u (fun e=>hk (by rw[e]))⟩
structure PW (w wr:World) (f:Int->Value) (out:List Int) (Jo:Int->List Int) (mm:Nat):Prop where
 row:Za wr w.heap.size (out.map (Value.int .i64)).toArray 3
 map:Ve wr (w.heap.size+1) mm f
 own:∀o s,Xp o s->Own 3 (w.heap.size+2) wr (f o) (Jo o)
 sep:∀o s o' s',Xp o s->Xp o' s'->o≠o'->Sep (f o) (f o')
 Xw:Below w.heap.size w wr
theorem PW.set{w wr:World}{f:Int->Value}{out:List Int}{Jo:Int->List Int}{mm:Nat}(h:PW w wr f out Jo mm)(i:Nat)(x:Int):
  PW w (wr.setCell ⟨w.heap.size,i,none⟩ (.int .i64 x)) f (out.set i x) Jo mm:=
 ⟨Fq h.row i x,h.map.kept (lI _ _ _) QJ,fun o s hk=>(h.own o s hk).setCell (by show w.heap.size<_;omega) _,h.sep,h.Xw.setCell (p:=⟨w.heap.size,i,none⟩) (ZB _) _⟩
theorem PW.alloc{w wr:World}{f:Int->Value}{out:List Int}{Jo:Int->List Int}{mm:Nat}(h:PW w wr f out Jo mm)(ob:Obj):PW w (wr.alloc ob) f out Jo mm:=
 ⟨h.row.alloc ob,h.map.alloc ob,fun o s hk=>(h.own o s hk).alloc ob,h.sep,h.Xw.alloc h.Xw.size ob⟩
theorem PW.mapOf{w w1 w2:World}{f:Int->Value}{out:List Int}{Jo:Int->List Int}{mm:Nat}(h:PW w w1 f out Jo mm){o s:Int}(hk:Xp o s)(hg:w1.grownBy w2 (f o).ownBlock):Ve w2 (w.heap.size+1) mm f:=
 h.map.kept hg ((h.own o s hk).ne QQ)
theorem Own.xm{e:TypeId}{base:Nat}{w w':World}{v:Value}{xs:List Int}{b:Nat}(h:Own e base w v xs)(hg:w.grownBy w' (some b))(hb:b<base):Own e base w' v xs:=by
 refine World.ownsRow.kept h hg ?_;rcases hv:v.ownBlock with _|j
 ·exact .inl rfl
 ·exact .inr (fun e=>by have:=h.row j hv;simp at e;omega)
theorem PW.push{w w1 w2 w3:World}{f:Int->Value}{out:List Int}{Jo:Int->List Int}{mm:Nat}(h:PW w w1 f out Jo mm){o s:Int}(hk:Xp o s){v':Value}{ys:List Int}
  (h1:Own 3 (w.heap.size+2) w2 v' ys) (hg:w1.grownBy w2 (f o).ownBlock) (hat:v'.ownBlock=(f o).ownBlock\/v'.ownBlock=some w1.heap.size)
  (hm:Ve w3 (w.heap.size+1) (mm+1) (fun y=>if y=o then v' else f y)) (hg2:w2.grownBy w3 (some (w.heap.size+1))):
  PW w w3 (fun y=>if y=o then v' else f y) out (fun y=>if y=o then ys else Jo y) (mm+1):=by
 have QZ3:∀o' s',Xp o' s'->o'≠o->Sep (f o') v':=fun o' s' hk' hne=>by
  rcases hat with e|e
  ·have:=h.sep o' s' o s hk' hk hne;unfold Sep at *;rw[e];exact this
  ·rcases hv:(f o').ownBlock with _|j
   ·exact .inl hv
   ·refine .inr ?_
    rw[hv,e];have:=(XC (h.own o' s' hk') j hv).2;simp;omega
 have hrow:=(h.own o s hk).row;refine⟨?_,hm,fun o' s' hk'=>?_,fun o1 s1 o2 s2 hk1 hk2 hne=>?_,?_⟩
 ·exact(h.row.grown hg ((h.own o s hk).ne QQ)).grown hg2 QJ
 ·by_cases e:o'=o
  ·subst e;rw[if_pos rfl];show Own _ _ _ _ (if o'=o' then ys else Jo o');rw[if_pos rfl];exact h1.xm hg2 QQ
  ·rw[if_neg e];show Own _ _ _ _ (if o'=o then ys else Jo o');rw[if_neg e]
   exact((h.own o' s' hk').grown hg (h.sep o' s' o s hk' hk e)).xm hg2 QQ
 ·by_cases e1:o1=o
  ·by_cases e2:o2=o
   ·exact absurd (e1.trans e2.symm) hne
   ·rw[if_pos e1,if_neg e2];exact(QZ3 o2 s2 hk2 e2).symm
  ·by_cases e2:o2=o
   ·rw[if_neg e1,if_pos e2];exact QZ3 o1 s1 hk1 e1
   ·rw[if_neg e1,if_neg e2];exact h.sep o1 s1 o2 s2 hk1 hk2 hne
 ·have hb1:Below w.heap.size w w2:=h.Xw.grown hg h.Xw.size (fun j hj=>by have:=hrow j hj;omega)
  exact hb1.grown hg2 hb1.size (fun j hj=>by simp at hj;omega)
theorem PW.pop{w w1 w3:World}{f:Int->Value}{out:List Int}{Jo:Int->List Int}{mm:Nat}(h:PW w w1 f out Jo mm){o s:Int}(hk:Xp o s){v':Value}{ys:List Int}
  (h1:Own 3 (w.heap.size+2) w1 v' ys) (hat:v'.ownBlock=(f o).ownBlock)
  (hm:Ve w3 (w.heap.size+1) (mm+1) (fun y=>if y=o then v' else f y)) (hg2:w1.grownBy w3 (some (w.heap.size+1))):
  PW w w3 (fun y=>if y=o then v' else f y) out (fun y=>if y=o then ys else Jo y) (mm+1):=
 h.push hk h1 ⟨rfl,rfl,rfl,ZB _,fun _ _ _=>rfl⟩ (.inl hat) hm hg2
def ai(l:List Int)(n:Nat)(w:World)(e:Ending)(w':World):Prop:=
 ∃g,e=.returned (.tuple #[.slice (some ⟨g,0,none⟩) n n,.int .i64 0])/\Ints w' (some ⟨g,0,none⟩) (Jr l n n).out/\Below w.heap.size w w'
theorem Bp(a:Option Addr)(n c:Nat)(l:List Int)(w:World)(ha:Ints w a l)(hn:l.length=n)(h2:n<=4096):
  Calls Tryz.prog 181 #[.slice a n c] w (ai l n w):=by
 have HN:=Zy hn;clear hn;have hmk:=yl n n (ZB _) QQ;have hmm:=@run_makeMap Tryz.prog;go_enter Tryz.func181,Tryz.ntmps181
 go_wp2;clear hmk hmm
 go_loopw [20] (fun i wr=>∃(k mm:Nat) (f:Int->Value),i=.int .i64 (k:Int)/\k<=n/\mm<=k/\(∀o,((Jr l n k).Jo o).length<=k)/\PW w wr f (Jr l n k).out (Jr l n k).Jo mm) (fun i _=>n-(intOf i).toNat)
 case atStart=>
  refine⟨0,0,fun _=>gG,rfl,QQ,QQ,fun o=>by simp[Jr],?_,?_,?_,?_,Zo _ _ _⟩
  ·show Za _ _ ((List.replicate n (0:Int)).map (Value.int .i64)).toArray _
   rw[<-vW n];exact(Za.new _ _ _).alloc _
  ·have:=Ve.made (w.alloc (.cells (madeCells #[.int .i64 0] n) 3))
   rwa[Zu]at this
  ·exact fun o s h=>Own.nil _ _ _
  ·exact fun _ _ _ _ _ _ _=>.inl rfl
 case round=>
  obtain⟨k,mm,f,rfl,hk,hmm,hlen,hPW⟩:=hrel;have hbel:=hPW.Xw;have hsz:=hbel.size;have hbw:=hPW.row.lt;have hml:=hPW.map.lt;by_cases hlt:k<n
  ·obtain⟨b1,o1,rfl,hc0⟩:=ha.at (k:=k) QW
   have ck:wr.cell? ⟨b1,o1+k,none⟩=some (.int .i64 (ix l k)):=by
    have:=hc0 k QW;exact QLB
   have hol:=zY l n k;have co:=zb hPW.row (i:=k) (by rw[hol];exact hlt);have cf:=hPW.row.free k;have Pj:=hPW.set k (-1);clear hc0;obtain⟨S,hS⟩:∃S,Jr l n k=S:=⟨_,rfl⟩;obtain⟨x,hx⟩:∃x,ix l k=x:=⟨_,rfl⟩;rw[hS]at hPW hlen co Pj;rw[hx]at ck;have HST:Hid (Jr l n (k+1)=Ub x k S):=Zy (by rw[<-hS,<-hx];rfl);have Pk:Hid (S.out.length=n):=Zy (by rw[<-hS];exact hol);have HS:=Zy hS;have HX:=Zy hx;clear hol hS hx;by_cases ho:Xj x=0
   ·have g0:(Xj x==0)=true:=by simpa using ho
    have HS2:=Zy (show Jr l n (k+1)=⟨S.out.set k (-1),S.Jo⟩ by rw[HST.out];simp[Ub,ho]);go_wp2_with fail
    refine(VT x _).mono ?_;rintro e w' ⟨rfl,rfl⟩;rw[ho];go_wp2;exact QHe
   ·have hr:=FR x
    have ho2:(Xj x==0)=false:=QEY;by_cases hs:qE x=false
    ·have hk0:Xp x (Xj x):=by
      rcases kindOf x with⟨h1,_⟩|⟨h1,_⟩|⟨_,_,h1⟩
      ·exact absurd h1 ho
      ·exact h1
      ·rw[hs]at h1;cases h1
     have HS2:=Zy (show Jr l n (k+1)=⟨S.out.set k (-1),fun y=>if y=x then S.Jo x++[(k:Int)]else S.Jo y⟩ by rw[HST.out];simp[Ub,ho,hs]);go_wp2_with fail
     refine(VT x _).mono ?_;rintro e w' ⟨rfl,rfl⟩;rw[hs];generalize wr.setCell ⟨w.heap.size,k,none⟩ (.int .i64 (-1))=w4 at *;have hxr:qg x:=by unfold Xp at hk0;unfold qg;omega
     have hl1:=hlen x;have Ex:=Pj.map.lt;go_wp2_with (first|(at_lookup;refine jo rfl _ _ rfl Pj.map hxr rfl rfl rfl ?_)|(at_builtin;refine QJp rfl _ _ rfl (w.heap.size+2) (f x) _ _ _ rfl rfl ((Pj.own _ _ hk0).alloc _) (JQ _ _ _) QQ QDV ?_;intro v3 w3 hown3 hgrow3 Qxx)|(at_mapUpdate;refine IG rfl _ _ _ rfl ((Pj.alloc _).mapOf hk0 hgrow3) QQ hxr (val:=v3) rfl rfl rfl ?_;intro w5 hm5 hg5))
     go_roundw
     case rel=>
      refine⟨k+1,mm+1,fun y=>if y=x then v3 else f y,Qy,QQ,QQ,?_,?_⟩
      ·rw[HS2.out];intro o
       show(if o=x then S.Jo x++[(k:Int)]else S.Jo o).length<=k+1
       split
       ·simpa using hl1
       ·exact Nat.le_succ_of_le (hlen o)
      ·rw[HS2.out];exact(Pj.alloc _).push hk0 hown3 hgrow3 Qxx hm5 hg5
     case measure=>simp[intOf];omega
    ·have hs2:qE x=true:=by simpa using hs
     have hk0:Xp (Xj x) x:=by
      rcases kindOf x with⟨h1,_⟩|⟨_,_,h1⟩|⟨h1,_⟩
      ·exact absurd h1 ho
      ·rw[hs2]at h1;cases h1
      ·exact h1
     have hxr:qg (Xj x):=by unfold qg;omega
     by_cases he:S.Jo (Xj x)=[]
     ·have HS2:=Zy (show Jr l n (k+1)=⟨S.out.set k (-1),S.Jo⟩ by rw[HST.out];simp[Ub,ho,hs2,he])
      have hown:=Pj.own _ _ hk0;rw[he]at hown;obtain⟨a4,n4,c4,hv⟩:=hown.form;rw[hv]at hown;obtain rfl:n4=0:=by have:=hown.get.1;simpa using this.symm
      have HV:=Zy hv;clear he hv hown;go_wp2_with fail
      refine(VT x _).mono ?_;rintro e w' ⟨rfl,rfl⟩;rw[hs2];go_wp2_with (at_lookup;refine jo rfl _ _ rfl Pj.map hxr HV.out rfl rfl ?_)
      exact QHe
     ·have hpos:=Xi.2 he
      have hown:=Pj.own _ _ hk0;obtain⟨g,kk,c4,hv,f1,f2,f3,f4,f5,f6,hI⟩:=hown.full hpos;obtain⟨m,rfl⟩:∃m,kk=m+1:=⟨kk-1,QQ⟩;rw[hv]at hown;have hl:(S.Jo (Xj x)).length=m+1:=QQ;have Qzr:=hown.pop;have hpl:(S.Jo (Xj x)).dropLast.length=m:=by simp[hl]
      have hl1:(S.Jo (Xj x)).length-1=m:=QQ;obtain⟨b4,o4,hb4,hc4⟩:=hI.at (k:=m) QQ;simp only[ZL,YR]at hb4;obtain⟨rfl,rfl,-⟩:=hb4;have cm:=hc4 m QQ;rw[XI]at cm;obtain⟨-,p,hp,QVk⟩:=((Pz.run l n k hk).FZ (Xj x) x hk0).pop HX.out hk0.ne (by rw[HS.out];exact hpos);have Qvu:=QVk.lt;rw[HS.out,hl1]at hp;rw[hp]at cm;have HS2:=Zy (show Jr l n (k+1)=⟨((S.out.set k (-1)).set k (p:Int)).set p (k:Int),fun y=>if y=Xj x then(S.Jo (Xj x)).dropLast else S.Jo y⟩ by
       rw[HST.out];simp only[Ub,ho,hs2,he,X3,hl1,hp];rfl)
      have i1:((m:Int)+1-1).toNat=m:=QQ;have i2:(m:Int)+1-1=m:=QQ;have i3:¬(m:Int)+1=0:=QQ;have i4:m<=c4:=QQ;have HV:=Zy hv;have HPL:=Zy hpl;clear hv hl hl1 hpl hc4 he hown hI QVk;go_wp2_with fail
      refine(VT x _).mono ?_;rintro e w' ⟨rfl,rfl⟩;rw[hs2];generalize wr.setCell ⟨w.heap.size,k,none⟩ (.int .i64 (-1))=w4 at *;go_wp2_with (first|(at_lookup;refine jo rfl _ _ rfl Pj.map hxr HV.out rfl rfl ?_)|(at_mapUpdate;refine IG rfl _ _ _ rfl Pj.map QQ hxr (val:=.slice (some ⟨g,0,none⟩) m c4) rfl rfl rfl ?_;intro w5 hm5 hg5;have lW:=Pj.pop hk0 Qzr (by rw[HV.out];rfl) hm5 hg5;have cf1:=lW.row.free k;have cf2:=lW.row.free p;have cc1:=zb lW.row (i:=k) (by simp;rw[Pk.out];omega);have cc2:=zb lW.row (i:=p) (by simp;rw[Pk.out];omega);have cc3:=Pj.Xw;clear hm5 hg5))
      refine⟨⟨k+1,mm+1,fun y=>if y=Xj x then .slice (some ⟨g,0,none⟩) m c4 else f y,Qy,QQ,QQ,?_,?_⟩,Qp⟩
      ·rw[HS2.out];intro o
       show(if o=Xj x then(S.Jo (Xj x)).dropLast else S.Jo o).length<=k+1
       split
       ·rw[HPL.out];have:=hlen (Xj x);omega
       ·exact Nat.le_succ_of_le (hlen o)
      ·rw[HS2.out]
       exact(lW.set k p).set p k
  ·have hkn:k=n:=by omega
   subst hkn;go_wp2;go_ret2
   exact⟨_,rfl,Bu hPW.row,hbel⟩
end Go.Proofs.YtmdnepkekekncaaGreat

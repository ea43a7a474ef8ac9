/- LiftTopBounds: joined, no condition of its own. -/
import Derived.Test.YtmdcencmiopmmaaGreatTbJoinT
import Derived.Test.YtmdcencmiopmmaaGreatTbJoinJ1
import Derived.Test.YtmdcencmiopmmaaGreatTbJoinJ4
set_option linter.unusedVariables false
set_option linter.unusedSimpArgs false
set_option maxRecDepth 100000
set_option maxHeartbeats 12000000
namespace Go.Proofs.YtmdcencmiopmmaaGreat
open Go.RowKit
def CZ(r:Option (Int×Bool)):Int:=match r with|some x=>x.1|none=>0
def U5(r:Option (Int×Bool)):Bool:=match r with|some x=>x.2|none=>false
def O8(r:Option (Int×Bool)):Int:=match r with|some x=>0|none=>5
def XJ(r:Option (Int×Bool))(w:World)(e:Ending)(w':World):Prop:=e=.returned (.tuple #[.agg #[.int .i64 (CZ r),.bool (U5 r)],.int .i64 (O8 r)])/\Below w.heap.size w w'
def KW(n k:Nat)(m:Int)(op:Bool):Option (Int×Bool):=if(if op then(n:Int)else n-1)<=k then none else some (min (if op then(n:Int)else n-1) (k+m),false)
theorem Ij(a:Option Addr)(n c:Nat)(k:Nat)(m:Int)(op:Bool)(w:World)(hn2:n<=4096)(hk:k<=n)(hm:1<=m)(hm2:m<=999):
  Calls Tryz.prog 298 #[Yf a n c k m op] w (XJ (KW n k m op) w):=by
 unfold Yf;have hB:=(QD.new w #[.slice a n c,.int .i64 (k:Int),.int .i64 m,.bool op] 359).alloc (.cells #[.int .i64 0,.bool false] 361);obtain⟨c0,c1,c2,c3⟩:=hB.four;have hP:=QD.new (w.alloc (.cells #[.slice a n c,.int .i64 (k:Int),.int .i64 m,.bool op] 359)) #[.int .i64 0,.bool false] 361;rw[QJ]at hP;have hacc:=QS w (.cells #[.slice a n c,.int .i64 (k:Int),.int .i64 m,.bool op] 359) (.cells #[.int .i64 0,.bool false] 361);cases op
 ·by_cases hf:(n:Int)-1<=k
  ·have HR:=QQ (show KW n k m false=none by rw[KW,if_pos (by simpa using hf)])
   exact QBX
  ·have HR:=QQ (show KW n k m false=some (min ((n:Int)-1) (k+m),false) by rw[KW,if_neg (by simpa using hf)];rfl)
   rcases(show(n:Int)-1<=k+m\/k+m<(n:Int)-1 by omega)with h1|h1
   ·have HM:=QQ (show min ((n:Int)-1) (k+m)=(n:Int)-1 by omega)
    go_enter Tryz.func298,Tryz.ntmps298
    go_wp2;rw[HR.out,HM.out];have hG:=(hP.set 0 (.int .i64 ((n:Int)-1))).set 1 (.bool false);obtain⟨q0,q1,-,-⟩:=QD.two hG;refine QV (v:=.tuple #[.agg #[.int .i64 ((n:Int)-1),.bool false],.int .i64 0]) (by simp[results,Tryz.results298,go_sem,q0,q1]) rfl ⟨rfl,?_⟩;exact QkN
   ·have HM:=QQ (show min ((n:Int)-1) (k+m)=k+m by omega)
    exact QAw
 ·by_cases hf:(n:Int)<=k
  ·have HR:=QQ (show KW n k m true=none by rw[KW,if_pos (by simpa using hf)])
   exact QBX
  ·have HR:=QQ (show KW n k m true=some (min ((n:Int)) (k+m),false) by rw[KW,if_neg (by simpa using hf)];rfl)
   rcases(show(n:Int)<=k+m\/k+m<(n:Int) by omega)with h1|h1
   ·have HM:=QQ (show min ((n:Int)) (k+m)=(n:Int) by omega)
    go_enter Tryz.func298,Tryz.ntmps298
    go_wp2;rw[HR.out,HM.out];have hG:=(hP.set 0 (.int .i64 ((n:Int)))).set 1 (.bool false);obtain⟨q0,q1,-,-⟩:=QD.two hG;refine QV (v:=.tuple #[.agg #[.int .i64 ((n:Int)),.bool false],.int .i64 0]) (by simp[results,Tryz.results298,go_sem,q0,q1]) rfl ⟨rfl,?_⟩;exact QkN
   ·have HM:=QQ (show min ((n:Int)) (k+m)=k+m by omega)
    exact QAw
theorem Ik(a:Option Addr)(n c:Nat)(l:List Int)(k:Nat)(m:Int)(op:Bool)(w:World)(hl:Ints w a l)(hn:l.length=n)(hn2:n<=4096):
  Calls Tryz.prog 299 #[Yf a n c k m op] w (iE (Yo l) w):=by
 unfold Yf;have HN:=QQ hn;clear hn;have hB:=QD.new w #[.slice a n c,.int .i64 (k:Int),.int .i64 m,.bool op] 359;obtain⟨c0,c1,c2,c3⟩:=hB.four;have hacc:=QC w (.cells #[.slice a n c,.int .i64 (k:Int),.int .i64 m,.bool op] 359);have hI:=hl.below hacc;go_enter Tryz.func299,Tryz.ntmps299
 go_wp2
 go_loop [8] (fun i=>∃j:Nat,i=.int .i64 (j:Int)/\j<=n/\∀t,t<j->Za (ix l t) true=0) (fun i=>n-(intOf i).toNat)
 case atStart=>exact⟨0,rfl,by omega,fun t h=>by omega⟩
 case round=>
  obtain⟨j,rfl,hj,hno⟩:=hrel;have HO:=QQ hno;clear hno;by_cases hlt:j<n
  ·obtain⟨b1,o1,rfl,hc⟩:=hI.at (k:=j) (by rw[HN.out];exact hlt)
   have e1:=hc j (by rw[HN.out];exact hlt);have hkr:=xF (ix l j) true;clear hc hl hI;by_cases hz:Za (ix l j) true=0
   ·have hz':(Za (ix l j) true !=0)=false:=by simpa using hz
    have HZ:=QQ hz;clear hz;go_wp2_with ((go_at_call 246);refine(X5 _ _ _).mono ?_;rintro e w' ⟨rfl,rfl⟩)
    go_round
    case rel=>exact⟨j+1,by go_num,by omega,fun t h=>by
     rcases Qp.1 h with h|rfl
     ·exact HO.out t h
     ·exact HZ.out⟩
    case measure=>simp[intOf];omega
   ·have hz':(Za (ix l j) true !=0)=true:=by simpa using hz
    have HF:=QQ (show Yo l=(j:Int) by
     unfold Yo;split
     ·rename_i r h
      obtain⟨h1,h2,h3,h4⟩:=XI h;simp at h3;rcases ZJ r j with h|h|h
      ·exact absurd (HO.out r h) h3
      ·rw[h]
      ·have:=h4 j (by omega) h;simp at this;exact absurd this hz
     ·rename_i h
      have:=UZ h j (by omega) (by rw[HN.out];omega);simp at this;exact absurd this hz)
    clear hz;go_wp2_with ((go_at_call 246);refine(X5 _ _ _).mono ?_;rintro e w' ⟨rfl,rfl⟩)
    go_ret;exact⟨by rw[HF.out];rfl,hacc⟩
  ·obtain rfl:j=n:=by omega
   have HF:=QQ (show Yo l=max 0 ((j:Int)-1) by
     unfold Yo;split
     ·rename_i r h
      obtain⟨h1,h2,h3,h4⟩:=XI h;simp at h3;exact absurd (HO.out r (by rw[HN.out]at h2;omega)) h3
     ·rw[HN.out])
   clear hI hl;rcases(show j=0\/0<j by omega)with h0|h0
   ·subst h0
    go_wp2;go_ret;exact⟨by rw[HF.out];rfl,hacc⟩
   ·have HM:=QQ (show max 0 ((j:Int)-1)=(j:Int)-1 by omega)
    have h1:0<=(j:Int)-1:=by omega
    go_wp2
    all_goals
     go_ret;exact⟨ZQ (by rw[HF.out];omega),hacc⟩
def Jd(l:List Int)(k:Nat)(m:Nat)(op big:Bool):Option (Int×Bool):=
 if op then some (Xk (Yj l big) m k,false)else if min (Xk (Yj l big) m k) ((l.length:Int)-1)=k then none else some (min (Xk (Yj l big) m k) ((l.length:Int)-1),false)
def Uf(l:List Int)(k:Nat)(m:Nat)(op big:Bool):Option (Int×Bool):=
 if op=false/\Xk (K8 l big) m k=k then none else some (Xk (K8 l big) m k,true)
theorem MO{l:List Int}{k m:Nat}{big:Bool}:Jd l k m true big=some (Xk (Yj l big) m k,false):=if_pos rfl
theorem vM{l:List Int}{k m:Nat}{big:Bool}{t:Int}(h:min (Xk (Yj l big) m k) ((l.length:Int)-1)=t):Jd l k m false big=if t=k then none else some (t,false):=by subst h;exact if_neg (by simp)
theorem kH(a:Option Addr)(n c:Nat)(l:List Int)(k m:Nat)(op big:Bool)(w:World)(hl:Ints w a l)(hn:l.length=n)(hn2:n<=4096)(hk:k<=n)(h0:1<=n)(hm:m<=1000):
  Calls Tryz.prog 301 #[Yf a n c k (m:Int) op,.bool big] w (XJ (Jd l k m op big) w):=by
 unfold Yf;have HB:=QQ (Y4 (f:=Yj l big) (lo:=0) (hi:=(n:Int)) (fun x h0 h1=>by rw[<-hn];exact qM l big x h0 (by omega)) (k:=(k:Int)) (by omega) (by omega) m);have HN:=QQ hn;clear hn;have hB:=(QD.new w #[.slice a n c,.int .i64 (k:Int),.int .i64 (m:Int),.bool op] 359).alloc (.cells #[.int .i64 0,.bool false] 361);obtain⟨c0,c1,c2,c3⟩:=hB.four;have hP:=QD.new (w.alloc (.cells #[.slice a n c,.int .i64 (k:Int),.int .i64 (m:Int),.bool op] 359)) #[.int .i64 0,.bool false] 361;rw[QJ]at hP;have hacc:=QS w (.cells #[.slice a n c,.int .i64 (k:Int),.int .i64 (m:Int),.bool op] 359) (.cells #[.int .i64 0,.bool false] 361);have hI:=hl.below hacc;cases op
 ·have hb:=HB.out
  obtain⟨t,ht⟩:∃t,Xk (Yj l big) m k=t:=⟨_,rfl⟩;rw[ht]at hb;obtain⟨b1,b2⟩:=hb;have HT:=QQ ht;clear ht;rcases(show t<=(n:Int)-1\/(n:Int)-1<t by omega)with h1|h1
  ·have HW:=QQ (vM (l:=l) (k:=k) (m:=m) (big:=big) (t:=t) (by rw[HT.out,HN.out];omega))
   by_cases hk2:t=(k:Int)
   ·have HR:=QQ (show Jd l k m false big=none by rw[HW.out,if_pos hk2])
    have hb':((t:Int)==(k:Int))=true:=by simpa using hk2
    exact QA5
   ·have HR:=QQ (show Jd l k m false big=some (t,false) by rw[HW.out,if_neg hk2])
    have hb':((t:Int)==(k:Int))=false:=by simpa using hk2
    clear hk2;go_enter Tryz.func301,Tryz.ntmps301
    go_wp2_with ((go_at_call 300);refine(YI a n c l k m _ big _ hI HN.out hn2 hk hm).mono ?_;rintro e w2 ⟨rfl,hb2⟩;rw[HT.out];have hB2:=hB.below hb2 hB.lt;obtain⟨d0,d1,d2,d3⟩:=hB2.four;have hP2:=hP.below hb2 hP.lt;obtain⟨s0,s1,s2,s3⟩:=hP2.two;have Qc:=QW hacc (by simp;omega) hb2)
    rw[HR.out];have hG:=(hP2.set 0 (.int .i64 (t))).set 1 (.bool false);obtain⟨q0,q1,-,-⟩:=QD.two hG;refine QV (v:=.tuple #[.agg #[.int .i64 (t),.bool false],.int .i64 0]) (by simp[results,Tryz.results301,go_sem,q0,q1]) rfl ⟨rfl,?_⟩;exact QkC
  ·have HW:=QQ (vM (l:=l) (k:=k) (m:=m) (big:=big) (t:=(n:Int)-1) (by rw[HT.out,HN.out];omega))
   by_cases hk2:(n:Int)-1=(k:Int)
   ·have HR:=QQ (show Jd l k m false big=none by rw[HW.out,if_pos hk2])
    have hb':(((n:Int)-1:Int)==(k:Int))=true:=by simpa using hk2
    exact QA5
   ·have HR:=QQ (show Jd l k m false big=some ((n:Int)-1,false) by rw[HW.out,if_neg hk2])
    have hb':(((n:Int)-1:Int)==(k:Int))=false:=by simpa using hk2
    clear hk2;go_enter Tryz.func301,Tryz.ntmps301
    go_wp2_with ((go_at_call 300);refine(YI a n c l k m _ big _ hI HN.out hn2 hk hm).mono ?_;rintro e w2 ⟨rfl,hb2⟩;rw[HT.out];have hB2:=hB.below hb2 hB.lt;obtain⟨d0,d1,d2,d3⟩:=hB2.four;have hP2:=hP.below hb2 hP.lt;obtain⟨s0,s1,s2,s3⟩:=hP2.two;have Qc:=QW hacc (by simp;omega) hb2)
    rw[HR.out];have hG:=(hP2.set 0 (.int .i64 ((n:Int)-1))).set 1 (.bool false);obtain⟨q0,q1,-,-⟩:=QD.two hG;refine QV (v:=.tuple #[.agg #[.int .i64 ((n:Int)-1),.bool false],.int .i64 0]) (by simp[results,Tryz.results301,go_sem,q0,q1]) rfl ⟨rfl,?_⟩;exact QkC
 ·have HR:=QQ (MO (l:=l) (k:=k) (m:=m) (big:=big))
  go_enter Tryz.func301,Tryz.ntmps301
  go_wp2_with ((go_at_call 300);refine(YI a n c l k m _ big _ hI HN.out hn2 hk hm).mono ?_;rintro e w2 ⟨rfl,hb2⟩;have hB2:=hB.below hb2 hB.lt;obtain⟨d0,d1,d2,d3⟩:=hB2.four;have hP2:=hP.below hb2 hP.lt;obtain⟨s0,s1,s2,s3⟩:=hP2.two;have Qc:=QW hacc (by simp;omega) hb2)
  rw[HR.out];have hG:=(hP2.set 0 (.int .i64 (Xk (Yj l big) m k))).set 1 (.bool false);obtain⟨q0,q1,-,-⟩:=QD.two hG;refine QV (v:=.tuple #[.agg #[.int .i64 (Xk (Yj l big) m k),.bool false],.int .i64 0]) (by simp[results,Tryz.results301,go_sem,q0,q1]) rfl ⟨rfl,?_⟩;exact QkC
theorem AO(a:Option Addr)(n c:Nat)(l:List Int)(k m:Nat)(op big:Bool)(w:World)(hl:Ints w a l)(hn:l.length=n)(hn2:n<=4096)(hk:k<=n)(h0:1<=n)(hm:m<=1000):
  Calls Tryz.prog 302 #[Yf a n c k (m:Int) op,.bool big] w (XJ (Uf l k m op big) w):=by
 unfold Yf;have HB:=QQ (Y4 (f:=K8 l big) (lo:=0) (hi:=(n:Int)) (fun x h0 h1=>by rw[<-hn];exact C8 l big x h0 (by omega)) (k:=(k:Int)) (by omega) (by omega) m);have HN:=QQ hn;clear hn;have hB:=(QD.new w #[.slice a n c,.int .i64 (k:Int),.int .i64 (m:Int),.bool op] 359).alloc (.cells #[.int .i64 0,.bool false] 361);obtain⟨c0,c1,c2,c3⟩:=hB.four;have hP:=QD.new (w.alloc (.cells #[.slice a n c,.int .i64 (k:Int),.int .i64 (m:Int),.bool op] 359)) #[.int .i64 0,.bool false] 361;rw[QJ]at hP;have hacc:=QS w (.cells #[.slice a n c,.int .i64 (k:Int),.int .i64 (m:Int),.bool op] 359) (.cells #[.int .i64 0,.bool false] 361);have hI:=hl.below hacc;obtain⟨t,ht⟩:∃t,Xk (K8 l big) m k=t:=⟨_,rfl⟩;have HT:=QQ ht;clear ht;cases op
 ·by_cases hk2:t=(k:Int)
  ·have HR:=QQ (show Uf l k m false big=none by rw[Uf,HT.out,if_pos ⟨rfl,hk2⟩])
   have hb':(t==(k:Int))=true:=by simpa using hk2
   clear hk2;go_enter Tryz.func302,Tryz.ntmps302
   go_wp2_with ((go_at_call 300);refine(Kl a n c l k m _ big _ hI HN.out hn2 hk hm).mono ?_;rintro e w2 ⟨rfl,hb2⟩;rw[HT.out];have hB2:=hB.below hb2 hB.lt;obtain⟨d0,d1,d2,d3⟩:=hB2.four;have hP2:=hP.below hb2 hP.lt;obtain⟨s0,s1,s2,s3⟩:=hP2.two;have Qc:=QW hacc (by simp;omega) hb2)
   rw[HR.out];have hG:=(hP2.set 0 (.int .i64 (0))).set 1 (.bool false);obtain⟨q0,q1,-,-⟩:=QD.two hG;refine QV (v:=.tuple #[.agg #[.int .i64 (0),.bool false],.int .i64 5]) (by simp[results,Tryz.results302,go_sem,q0,q1]) rfl ⟨rfl,?_⟩;exact QkC
  ·have HR:=QQ (show Uf l k m false big=some (t,true) by rw[Uf,HT.out,if_neg (fun h=>hk2 h.2)])
   have hb':(t==(k:Int))=false:=by simpa using hk2
   clear hk2;exact QA7
 ·have HR:=QQ (show Uf l k m true big=some (t,true) by rw[Uf,HT.out,if_neg (fun h=>by cases h.1)])
  exact QA7
end Go.Proofs.YtmdcencmiopmmaaGreat
namespace Go.Proofs.YtmdcencmiopmmaaGreat
open Go.RowKit Go.Maps
theorem zO{ops:Array Oper}{rest:List Oper}{o:Oper}{a:Act}{Q:Exit->Act->World->Prop}{w:World}(hg:o.guard=none)(m x:Operand)
  (hop:o.op=Op.lookup 377 m x false) {b n:Nat} {f:Int->Value} (hmap:Kr w b n f) {k:Int} (hk:yT k) {v:Value} (hv:f k=v) (hm:a.eval m=.map (some b)) (hx:a.eval x=.int .i64 k)
  (hK:wpList Tryz.prog ops Q rest (a.put o.dst v) w):wpList Tryz.prog ops Q (o::rest) a w:=by
 subst hv;refine wpList_plain hg fun K' hK'=>?_
 have hrun:=hmap.lookup (bB w) hk;unfold Oper.wp;simp[execOp,hop,hm,hx,hrun,Result.andThen];exact hK' _ _ hK
theorem D6{ops:Array Oper}{rest:List Oper}{o:Oper}{a:Act}{Q:Exit->Act->World->Prop}{w:World}(hg:o.guard=none)(m x v:Operand)
  (hop:o.op=Op.mapUpdate 377 m x v) {b n:Nat} {f:Int->Value} (hmap:Kr w b n f) (hn:n<=1000000000) {k:Int} (hk:yT k) {val:Value}
  (hm:a.eval m=.map (some b)) (hx:a.eval x=.int .i64 k) (hv:a.eval v=val)
  (hK:∀w',Kr w' b (n+1) (fun y=>if y=k then val else f y)->w.grownBy w' (some b)->wpList Tryz.prog ops Q rest (a.put o.dst undef) w'):wpList Tryz.prog ops Q (o::rest) a w:=by
 refine wpList_plain hg fun K' hK'=>?_
 obtain⟨w',hrun,r1,r2⟩:=hmap.update hn hk val;unfold Oper.wp;simp[execOp,hop,hm,hx,hv,hrun,Result.andThen];exact hK' _ _ (hK w' r1 r2)
theorem tT{ops:Array Oper}{rest:List Oper}{o:Oper}{a:Act}{Q:Exit->Act->World->Prop}{w:World}(hgd:o.guard=none)(s x:Operand)
  (ho:o.op=.call {callee:=.builtin .append,args:=#[s,x],argTypes:=#[26,26]})
  (base:Nat) (v:Value) (xs:List Int) (y:Int) (ad:Addr) (hs:a.eval s=v) (hx:a.eval x=.slice (some ad) 1 1)
  (hown:Own 3 base w v xs) (hc:w.cell? ad=some (.int .i64 y)) (hl:xs.length<17592186044416) (hbase:base<=w.heap.size)
  (h:∀v' w',Own 3 base w' v' (xs++[y])->w.grownBy w' v.ownBlock->(v'.ownBlock=v.ownBlock\/v'.ownBlock=some w.heap.size)->wpList Tryz.prog ops Q rest (a.put o.dst v') w'):
  wpList Tryz.prog ops Q (o::rest) a w:=by
 obtain⟨i0,hi,hz0,hz1,hz2⟩:=ZF Yq;refine wpList_append_own_at w hgd s x 26 ho base 3 i0 (.int .i64 0) 1 8 Tryz.underlying26 hi hz0 hz1 hz2 rfl (by decide) v xs.length _ hs hown ad 1 1 [.int .i64 y] hx rfl ?_ ?_ ?_ ?_ hbase ?_
 ·intro j u hj
  match j with
  | 0=>simp at hj;subst hj;simpa[Addr.add]using hc
  | j+1=>simp at hj
 ·intro u hu;simp at hu;subst hu;rfl
 ·unfold maxLen;omega
 ·omega
 ·intro v' w' h1 h2 h3 h4
  refine h v' w' ?_ h2 h4;unfold Own;simpa using h1
theorem TA(w:World)(a:Addr)(u:Value):w.grownBy (w.setCell a u) (some a.block):=
 ⟨rfl,rfl,rfl,by simp,fun k _ hk=>heap_setCell_other w a k u (fun e=>hk (by rw[e]))⟩
structure PW (w wr:World) (f:Int->Value) (out:List Int) (YM:Int->List Int) (mm:Nat):Prop where
 row:QD wr w.heap.size (out.map (Value.int .i64)).toArray 3
 map:Kr wr (w.heap.size+1) mm f
 own:∀o s,ZH o s->Own 3 (w.heap.size+2) wr (f o) (YM o)
 sep:∀o s o' s',ZH o s->ZH o' s'->o≠o'->Sep (f o) (f o')
 XW:Below w.heap.size w wr
theorem PW.set{w wr:World}{f:Int->Value}{out:List Int}{YM:Int->List Int}{mm:Nat}(h:PW w wr f out YM mm)(i:Nat)(x:Int):
  PW w (wr.setCell ⟨w.heap.size,i,none⟩ (.int .i64 x)) f (out.set i x) YM mm:=
 ⟨BM h.row i x,h.map.kept (TA _ _ _) (by simp),fun o s hk=>(h.own o s hk).setCell (by show w.heap.size<_;omega) _,h.sep,h.XW.setCell (p:=⟨w.heap.size,i,none⟩) (QU _) _⟩
theorem PW.alloc{w wr:World}{f:Int->Value}{out:List Int}{YM:Int->List Int}{mm:Nat}(h:PW w wr f out YM mm)(ob:Obj):PW w (wr.alloc ob) f out YM mm:=
 ⟨h.row.alloc ob,h.map.alloc ob,fun o s hk=>(h.own o s hk).alloc ob,h.sep,h.XW.alloc h.XW.size ob⟩
theorem PW.mapOf{w w1 w2:World}{f:Int->Value}{out:List Int}{YM:Int->List Int}{mm:Nat}(h:PW w w1 f out YM mm){o s:Int}(hk:ZH o s)(hg:w1.grownBy w2 (f o).ownBlock):Kr w2 (w.heap.size+1) mm f:=
 h.map.kept hg ((h.own o s hk).ne (by omega))
theorem Own.Ws{e:TypeId}{base:Nat}{w w':World}{v:Value}{xs:List Int}{b:Nat}(h:Own e base w v xs)(hg:w.grownBy w' (some b))(hb:b<base):Own e base w' v xs:=by
 refine World.ownsRow.kept h hg ?_;rcases hv:v.ownBlock with _|j
 ·exact .inl rfl
 ·exact .inr (fun e=>by have:=h.row j hv;simp at e;omega)
theorem PW.push{w w1 w2 w3:World}{f:Int->Value}{out:List Int}{YM:Int->List Int}{mm:Nat}(h:PW w w1 f out YM mm){o s:Int}(hk:ZH o s){v':Value}{ys:List Int}
  (h1:Own 3 (w.heap.size+2) w2 v' ys) (hg:w1.grownBy w2 (f o).ownBlock) (hat:v'.ownBlock=(f o).ownBlock\/v'.ownBlock=some w1.heap.size)
  (hm:Kr w3 (w.heap.size+1) (mm+1) (fun y=>if y=o then v' else f y)) (hg2:w2.grownBy w3 (some (w.heap.size+1))):
  PW w w3 (fun y=>if y=o then v' else f y) out (fun y=>if y=o then ys else YM y) (mm+1):=by
 have lh:∀o' s',ZH o' s'->o'≠o->Sep (f o') v':=fun o' s' hk' hne=>by
  rcases hat with e|e
  ·have:=h.sep o' s' o s hk' hk hne;unfold Sep at *;rw[e];exact this
  ·rcases hv:(f o').ownBlock with _|j
   ·exact .inl hv
   ·refine .inr ?_
    rw[hv,e];have:=(ZW (h.own o' s' hk') j hv).2;simp;omega
 have hrow:=(h.own o s hk).row;refine⟨?_,hm,fun o' s' hk'=>?_,fun o1 s1 o2 s2 hk1 hk2 hne=>?_,?_⟩
 ·exact(h.row.grown hg ((h.own o s hk).ne (by omega))).grown hg2 (by simp)
 ·by_cases e:o'=o
  ·subst e;rw[if_pos rfl];show Own _ _ _ _ (if o'=o' then ys else YM o');rw[if_pos rfl];exact h1.Ws hg2 (by omega)
  ·rw[if_neg e];show Own _ _ _ _ (if o'=o then ys else YM o');rw[if_neg e]
   exact((h.own o' s' hk').grown hg (h.sep o' s' o s hk' hk e)).Ws hg2 (by omega)
 ·by_cases e1:o1=o
  ·by_cases e2:o2=o
   ·exact absurd (e1.trans e2.symm) hne
   ·rw[if_pos e1,if_neg e2];exact(lh o2 s2 hk2 e2).symm
  ·by_cases e2:o2=o
   ·rw[if_neg e1,if_pos e2];exact lh o1 s1 hk1 e1
   ·rw[if_neg e1,if_neg e2];exact h.sep o1 s1 o2 s2 hk1 hk2 hne
 ·have hb1:Below w.heap.size w w2:=h.XW.grown hg h.XW.size (fun j hj=>by have:=hrow j hj;omega)
  exact hb1.grown hg2 hb1.size (fun j hj=>by simp at hj;omega)
theorem PW.pop{w w1 w3:World}{f:Int->Value}{out:List Int}{YM:Int->List Int}{mm:Nat}(h:PW w w1 f out YM mm){o s:Int}(hk:ZH o s){v':Value}{ys:List Int}
  (h1:Own 3 (w.heap.size+2) w1 v' ys) (hat:v'.ownBlock=(f o).ownBlock)
  (hm:Kr w3 (w.heap.size+1) (mm+1) (fun y=>if y=o then v' else f y)) (hg2:w1.grownBy w3 (some (w.heap.size+1))):
  PW w w3 (fun y=>if y=o then v' else f y) out (fun y=>if y=o then ys else YM y) (mm+1):=
 h.push hk h1 ⟨rfl,rfl,rfl,QU _,fun _ _ _=>rfl⟩ (.inl hat) hm hg2
def Oa(l:List Int)(n:Nat)(w:World)(e:Ending)(w':World):Prop:=
 ∃g,e=.returned (.tuple #[.slice (some ⟨g,0,none⟩) n n,.int .i64 0])/\Ints w' (some ⟨g,0,none⟩) (YO l n n).out/\Below w.heap.size w w'
theorem kS(a:Option Addr)(n c:Nat)(l:List Int)(w:World)(ha:Ints w a l)(hn:l.length=n)(h2:n<=4096):
  Calls Tryz.prog 295 #[.slice a n c] w (Oa l n w):=by
 have HN:=QQ hn;clear hn;have hmk:=qP n n (QU _) (by omega);have hmm:=@run_makeMap Tryz.prog;go_enter Tryz.func295,Tryz.ntmps295
 go_wp2;clear hmk hmm
 go_loopw [20] (fun i wr=>∃(k mm:Nat) (f:Int->Value),i=.int .i64 (k:Int)/\k<=n/\mm<=k/\(∀o,((YO l n k).YM o).length<=k)/\PW w wr f (YO l n k).out (YO l n k).YM mm) (fun i _=>n-(intOf i).toNat)
 case atStart=>
  refine⟨0,0,fun _=>R8,rfl,by omega,by omega,fun o=>by simp[YO],?_,?_,?_,?_,QS _ _ _⟩
  ·show QD _ _ ((List.replicate n (0:Int)).map (Value.int .i64)).toArray _
   rw[<-yF n];exact(QD.new _ _ _).alloc _
  ·have:=Kr.made (w.alloc (.cells (madeCells #[.int .i64 0] n) 3))
   rwa[QJ]at this
  ·exact fun o s h=>Own.nil _ _ _
  ·exact fun _ _ _ _ _ _ _=>.inl rfl
 case round=>
  obtain⟨k,mm,f,rfl,hk,hmm,hlen,mW⟩:=hrel;have hbel:=mW.XW;have hsz:=hbel.size;have hbw:=mW.row.lt;have hml:=mW.map.lt;by_cases hlt:k<n
  ·obtain⟨b1,o1,rfl,hc0⟩:=ha.at (k:=k) (by rw[HN.out];exact hlt)
   have ck:wr.cell? ⟨b1,o1+k,none⟩=some (.int .i64 (ix l k)):=by
    have:=hc0 k (by rw[HN.out];exact hlt);exact QAc
   have hol:=VT l n k;have co:=WY mW.row (i:=k) (by rw[hol];exact hlt);have cf:=mW.row.free k;have LZ:=mW.set k (-1);clear hc0;obtain⟨S,hS⟩:∃S,YO l n k=S:=⟨_,rfl⟩;obtain⟨x,hx⟩:∃x,ix l k=x:=⟨_,rfl⟩;rw[hS]at mW hlen co LZ;rw[hx]at ck;have HST:Hid (YO l n (k+1)=J7 x k S):=QQ (by rw[<-hS,<-hx];rfl);have LX:Hid (S.out.length=n):=QQ (by rw[<-hS];exact hol);have HS:=QQ hS;have HX:=QQ hx;clear hol hS hx;by_cases ho:Q0 x=0
   ·have g0:(Q0 x==0)=true:=by simpa using ho
    have HS2:=QQ (show YO l n (k+1)=⟨S.out.set k (-1),S.YM⟩ by rw[HST.out];simp[J7,ho]);go_wp2_with fail
    refine(Km x _).mono ?_;rintro e w' ⟨rfl,rfl⟩;rw[ho];go_wp2;exact Qu8
   ·have hr:=Bn x
    have ho2:(Q0 x==0)=false:=by simpa using ho
    by_cases hs:Vy x=false
    ·have hk0:ZH x (Q0 x):=by
      rcases kindOf x with⟨h1,_⟩|⟨h1,_⟩|⟨_,_,h1⟩
      ·exact absurd h1 ho
      ·exact h1
      ·rw[hs]at h1;cases h1
     have HS2:=QQ (show YO l n (k+1)=⟨S.out.set k (-1),fun y=>if y=x then S.YM x++[(k:Int)]else S.YM y⟩ by rw[HST.out];simp[J7,ho,hs]);go_wp2_with fail
     refine(Km x _).mono ?_;rintro e w' ⟨rfl,rfl⟩;rw[hs];generalize wr.setCell ⟨w.heap.size,k,none⟩ (.int .i64 (-1))=w4 at *;have lN:yT x:=by unfold ZH at hk0;unfold yT;omega
     have hl1:=hlen x;have Av:=LZ.map.lt;go_wp2_with (first|(at_lookup;refine zO rfl _ _ rfl LZ.map lN rfl rfl rfl ?_)|(at_builtin;refine tT rfl _ _ rfl (w.heap.size+2) (f x) _ _ _ rfl rfl ((LZ.own _ _ hk0).alloc _) (Xi _ _ _) (by omega) (by rw[QJ];omega) ?_;intro v3 w3 hown3 hgrow3 QKf)|(at_mapUpdate;refine D6 rfl _ _ _ rfl ((LZ.alloc _).mapOf hk0 hgrow3) (by omega) lN (val:=v3) rfl rfl rfl ?_;intro w5 hm5 hg5))
     go_roundw
     case rel=>
      refine⟨k+1,mm+1,fun y=>if y=x then v3 else f y,by go_num,by omega,by omega,?_,?_⟩
      ·rw[HS2.out];intro o
       show(if o=x then S.YM x++[(k:Int)]else S.YM o).length<=k+1
       split
       ·simpa using hl1
       ·exact Nat.le_succ_of_le (hlen o)
      ·rw[HS2.out];exact(LZ.alloc _).push hk0 hown3 hgrow3 QKf hm5 hg5
     case measure=>simp[intOf];omega
    ·have hs2:Vy x=true:=by simpa using hs
     have hk0:ZH (Q0 x) x:=by
      rcases kindOf x with⟨h1,_⟩|⟨_,_,h1⟩|⟨h1,_⟩
      ·exact absurd h1 ho
      ·rw[hs2]at h1;cases h1
      ·exact h1
     have lN:yT (Q0 x):=by unfold yT;omega
     by_cases he:S.YM (Q0 x)=[]
     ·have HS2:=QQ (show YO l n (k+1)=⟨S.out.set k (-1),S.YM⟩ by rw[HST.out];simp[J7,ho,hs2,he])
      have hown:=LZ.own _ _ hk0;rw[he]at hown;obtain⟨a4,n4,c4,hv⟩:=hown.form;rw[hv]at hown;obtain rfl:n4=0:=by have:=hown.get.1;simpa using this.symm
      have HV:=QQ hv;clear he hv hown;go_wp2_with fail
      refine(Km x _).mono ?_;rintro e w' ⟨rfl,rfl⟩;rw[hs2];go_wp2_with (at_lookup;refine zO rfl _ _ rfl LZ.map lN HV.out rfl rfl ?_)
      exact Qu8
     ·have hpos:=Zf.2 he
      have hown:=LZ.own _ _ hk0;obtain⟨g,kk,c4,hv,f1,f2,f3,f4,f5,f6,hI⟩:=hown.full hpos;obtain⟨m,rfl⟩:∃m,kk=m+1:=⟨kk-1,by omega⟩;rw[hv]at hown;have hl:(S.YM (Q0 x)).length=m+1:=by omega
      have QKv:=hown.pop;have hpl:(S.YM (Q0 x)).dropLast.length=m:=by simp[hl]
      have hl1:(S.YM (Q0 x)).length-1=m:=by omega
      obtain⟨b4,o4,hb4,hc4⟩:=hI.at (k:=m) (by omega);simp only[Qv,Xz]at hb4;obtain⟨rfl,rfl,-⟩:=hb4;have cm:=hc4 m (by omega);rw[Zu]at cm;obtain⟨-,p,hp,QXk⟩:=((I9.run l n k hk).BD (Q0 x) x hk0).pop HX.out hk0.ne (by rw[HS.out];exact hpos);have Qzz:=QXk.lt;rw[HS.out,hl1]at hp;rw[hp]at cm;have HS2:=QQ (show YO l n (k+1)=⟨((S.out.set k (-1)).set k (p:Int)).set p (k:Int),fun y=>if y=Q0 x then(S.YM (Q0 x)).dropLast else S.YM y⟩ by
       rw[HST.out];simp only[J7,ho,hs2,he,ZM,hl1,hp];rfl)
      have i1:((m:Int)+1-1).toNat=m:=by omega
      have i2:(m:Int)+1-1=m:=by omega
      have i3:¬(m:Int)+1=0:=by omega
      have i4:m<=c4:=by omega
      have HV:=QQ hv;have HPL:=QQ hpl;clear hv hl hl1 hpl hc4 he hown hI QXk;go_wp2_with fail
      refine(Km x _).mono ?_;rintro e w' ⟨rfl,rfl⟩;rw[hs2];generalize wr.setCell ⟨w.heap.size,k,none⟩ (.int .i64 (-1))=w4 at *;go_wp2_with (first|(at_lookup;refine zO rfl _ _ rfl LZ.map lN HV.out rfl rfl ?_)|(at_mapUpdate;refine D6 rfl _ _ _ rfl LZ.map (by omega) lN (val:=.slice (some ⟨g,0,none⟩) m c4) rfl rfl rfl ?_;intro w5 hm5 hg5;have TW:=LZ.pop hk0 QKv (by rw[HV.out];rfl) hm5 hg5;have cf1:=TW.row.free k;have cf2:=TW.row.free p;have cc1:=WY TW.row (i:=k) (by simp;rw[LX.out];omega);have cc2:=WY TW.row (i:=p) (by simp;rw[LX.out];omega);have cc3:=LZ.XW;clear hm5 hg5))
      refine⟨⟨k+1,mm+1,fun y=>if y=Q0 x then .slice (some ⟨g,0,none⟩) m c4 else f y,by go_num,by omega,by omega,?_,?_⟩,by simp[intOf];omega⟩
      ·rw[HS2.out];intro o
       show(if o=Q0 x then(S.YM (Q0 x)).dropLast else S.YM o).length<=k+1
       split
       ·rw[HPL.out];have:=hlen (Q0 x);omega
       ·exact Nat.le_succ_of_le (hlen o)
      ·rw[HS2.out]
       exact(TW.set k p).set p k
  ·have hkn:k=n:=by omega
   subst hkn;go_wp2;go_ret2
   exact⟨_,rfl,j6 mW.row,hbel⟩
end Go.Proofs.YtmdcencmiopmmaaGreat

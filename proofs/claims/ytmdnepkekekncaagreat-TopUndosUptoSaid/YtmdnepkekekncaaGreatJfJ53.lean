/- joined, no condition of its own. -/
import Derived.Test.YtmdnepkekekncaaGreatJfJ50
import Derived.Lib.Repeat
import Derived.Shelf.Strings.Repeat
import Derived.Test.YtmdnepkekekncaaGreatRows
import Derived.Deep.Slices
import Derived.Deep.Fields
import Derived.ChangeSame
set_option linter.unusedVariables false
set_option linter.unusedSimpArgs false
set_option maxRecDepth 100000
set_option maxHeartbeats 12000000
namespace Go.Proofs.YtmdnepkekekncaaGreat
open Go.RowKit
theorem dA{W:World}{T:SS}{P:List (List Int×Int)}{t:List Int}{p:Int}(hq:VF T=true)(hp:T.past=P++[(t,p)]):
  (T.step W 117).told=T.told/\(T.step W 117).text=t/\(T.step W 117).pos=p/\(T.step W 117).past=P/\VF (T.step W 117)=true:=by
 obtain⟨hm,hpt,ho⟩:=FB hq;have htk:T.JS 117=⟨0,0,0,0,0,0,0,0,117,0,2⟩:=by unfold SS.JS;rw[hpt];exact IL
 have e:T.step W 117=({T with part:=CZ,text:=t,pos:=p,past:=P}:SS).show:=by
  rw[yF hm ho (by rw[htk];decide),htk,if_pos rfl];unfold SS.command;rw[if_neg QZ,if_pos QDu];unfold SS.back;rw[if_neg (by show¬T.past.length=0;rw[hp];simp)];dsimp only;rw[hp,List.getLast?_append,List.dropLast_concat];rfl
 rw[e];refine⟨rfl,rfl,rfl,rfl,?_⟩
 show(decide (T.mode=0)&&decide (CZ=CZ)&&!T.over)=true
 rw[hm,ho];rfl
def G9(S0:SS)(n:Nat)(T:SS):Prop:=∃P Q,T.past=P++Q/\Q.length=n/\(Q++[(T.text,T.pos)]).head? =some (S0.text,S0.pos)
theorem G9.zero(S:SS):G9 S 0 S:=⟨S.past,[],by rw[List.append_nil],rfl,rfl⟩
theorem G9.step{S0 T U:SS}{n:Nat}(h:G9 S0 n T)(hn:n+1<=30)(hc:Chd T U):G9 S0 (n+1) U:=by
 obtain⟨P,Q,h1,h2,h3⟩:=h;refine⟨P.drop (T.past.length+1-30),Q++[(T.text,T.pos)],?_,by rw[ZN,h2];rfl,?_⟩
 ·rw[hc.past,D5,h1,<-List.append_assoc]
  congr 1
  rw[List.drop_append_of_le_length (by rw[ZN,h2];omega)]
 ·rw[List.head?_append,h3];rfl
theorem IM{W:World}{S0:SS}:∀(n:Nat) {T:SS},G9 S0 n T->VF T=true->
  (T.keys W (List.replicate n 117)).told=T.told/\(T.keys W (List.replicate n 117)).text=S0.text/\(T.keys W (List.replicate n 117)).pos=S0.pos
 | 0,T,⟨P,Q,h1,h2,h3⟩,hq=>by
  obtain rfl:=ZM h2;simp at h3;exact⟨rfl,h3.1,h3.2⟩
 | n+1,T,⟨P,Q,h1,h2,h3⟩,hq=>by
  rcases List.eq_nil_or_concat Q with rfl|⟨Q',b,rfl⟩
  ·simp at h2
  obtain⟨t,p⟩:=b;rw[List.concat_eq_append]at h1 h2 h3;rw[<-List.append_assoc]at h1;obtain⟨g1,g2,g3,g4,g5⟩:=dA (W:=W) hq h1;have hs:T.keys W (List.replicate (n+1) 117)=(T.step W 117).keys W (List.replicate n 117):=rfl;obtain⟨i1,i2,i3⟩:=IM (W:=W) (S0:=S0) n (T:=T.step W 117) ⟨P,Q',g4,by simp at h2;exact h2,by
   rw[g2,g3];rw[List.head?_append]at h3;cases hh:(Q'++[(t,p)]).head? with
   | none=>simp at hh
   | some x=>rw[hh]at h3;exact h3⟩ g5
  rw[hs];exact⟨i1.trans g1,i2,i3⟩
theorem QUz(n:Nat):Lib.repeatL [117] n=List.replicate n 117:=by
 induction n with
 | zero=>rfl
 | succ n ih=>rw[Lib.repeatL,ih];rfl
theorem Sk(n:Nat):runesBytes (List.replicate n 117)=⟨(Lib.repeatL [117] n).toArray⟩:=by
 rw[QUz];induction n with
 | zero=>rfl
 | succ n ih=>
  rw[List.replicate_succ',Uv,ih,List.replicate_succ' (a:=(117:UInt8)),enc1 (c:=117) QZ QZ];apply ByteArray.ext;simp;rw[<-List.toArray_replicate,List.push_toArray]
theorem Sv{W:World}{n:Nat}{S0 T:SS}(hP:yJ T.pend)(hu:G9 S0 n T)(hq:VF T=true)(hd:n=0\/T.pend=⟨#[]⟩)(hn:n<=30):
  (T.feed W (runesBytes (List.replicate n 117))).2=0/\(T.feed W (runesBytes (List.replicate n 117))).1.told=[]/\(T.feed W (runesBytes (List.replicate n 117))).1.text=S0.text/\(T.feed W (runesBytes (List.replicate n 117))).1.pos=S0.pos:=by
 obtain⟨hm,hpt,ho⟩:=FB hq;have hok:qF (List.replicate n 117)=true:=by
  unfold qF;rw[List.all_eq_true];intro x hx;rw[List.eq_of_mem_replicate hx];rfl
 have hsz:(runesBytes (List.replicate n 117)).size<=4096:=by
  have:=runesBytes_size_le (List.replicate n 117);rw[YD]at this;omega
 have hr:(JU (T.pend++runesBytes (List.replicate n 117))).out=List.replicate n 117:=by
  rcases hd with rfl|hd
  ·have e:T.pend++runesBytes (List.replicate 0 117)=T.pend:=ByteArray.append_empty
   rw[e];exact hP.out
  ·rw[hd];exact(P7 hok).1
 rw[zB ho hsz,hr];exact⟨rfl,IM n (T:={T with pend:=_,told:=[],Yv:=[]}) hu hq⟩
end Go.Proofs.YtmdnepkekekncaaGreat
namespace Go.Proofs.YtmdnepkekekncaaGreat
open Go.Shelf Go.RowKit
def Pw:Go.Shelf.Ren:=⟨fun|105=>24|212=>41|99=>42|165=>43|166=>44|170=>45|169=>46|263=>70|264=>71|206=>72|240=>73|241=>74|276=>107|277=>108|n=>n,fun|9=>9|3=>3|4=>4|20=>20|0=>0|46=>103|109=>104|5=>5|72=>110|76=>113|51=>140|146=>141|53=>143|148=>144|70=>107|37=>108|75=>112|127=>146|164=>182|80=>116|n=>n,fun|n=>n⟩
theorem rG:Go.Proofs.Lays.n105 Tryz.prog Pw:={
 mixed:=QX
 f99:=Tryz.func42.trans (XD some QX)
 f105:=Tryz.func24.trans (XD some QX)
 f165:=Tryz.func43.trans (XD some QX)
 f166:=Tryz.func44.trans (XD some QX)
 f169:=Tryz.func46.trans (XD some QX)
 f170:=Tryz.func45.trans (XD some QX)
 f206:=Tryz.func72.trans (XD some QX)
 f212:=Tryz.func41.trans (XD some QX)
 f240:=Tryz.func73.trans (XD some QX)
 f241:=Tryz.func74.trans (XD some QX)
 f263:=Tryz.func70.trans (XD some QX)
 f264:=Tryz.func71.trans (XD some QX)
 f276:=Tryz.func107.trans (XD some QX)
 f277:=Tryz.func108.trans (XD some QX)
 t0:=Tryz.underlying0
 a0:=Tryz.isAgg0
 z0:=Tryz.sizeOf0
 v0:=Tryz.zeroValue0
 t3:=Tryz.underlying3
 a3:=Tryz.isAgg3
 z3:=Tryz.sizeOf3
 v3:=Tryz.zeroValue3
 t4:=Tryz.underlying4
 a4:=Tryz.isAgg4
 z4:=Tryz.sizeOf4
 v4:=Tryz.zeroValue4
 t5:=Tryz.underlying5
 a5:=Tryz.isAgg5
 z5:=Tryz.sizeOf5
 v5:=Tryz.zeroValue5
 t9:=Tryz.underlying9
 a9:=Tryz.isAgg9
 z9:=Tryz.sizeOf9
 v9:=Tryz.zeroValue9
 t20:=Tryz.underlying20
 a20:=Tryz.isAgg20
 z20:=Tryz.sizeOf20
 v20:=Tryz.zeroValue20
 t37:=Tryz.underlying108
 a37:=Tryz.isAgg108
 z37:=Tryz.sizeOf108
 v37:=Tryz.zeroValue108
 t46:=Tryz.underlying103
 a46:=Tryz.isAgg103
 z46:=Tryz.sizeOf103
 v46:=Tryz.zeroValue103
 t51:=Tryz.underlying140
 a51:=Tryz.isAgg140
 z51:=Tryz.sizeOf140
 v51:=Tryz.zeroValue140
 t53:=Tryz.underlying143
 a53:=Tryz.isAgg143
 z53:=Tryz.sizeOf143
 v53:=Tryz.zeroValue143
 t70:=Tryz.underlying107
 a70:=Tryz.isAgg107
 z70:=Tryz.sizeOf107
 v70:=Tryz.zeroValue107
 t72:=Tryz.underlying110
 a72:=Tryz.isAgg110
 z72:=Tryz.sizeOf110
 v72:=Tryz.zeroValue110
 t75:=Tryz.underlying112
 a75:=Tryz.isAgg112
 z75:=Tryz.sizeOf112
 v75:=Tryz.zeroValue112
 t76:=Tryz.underlying113
 a76:=Tryz.isAgg113
 z76:=Tryz.sizeOf113
 v76:=Tryz.zeroValue113
 t109:=Tryz.underlying104
 a109:=Tryz.isAgg104
 z109:=Tryz.sizeOf104
 v109:=Tryz.zeroValue104
 t127:=Tryz.underlying146
 a127:=Tryz.isAgg146
 z127:=Tryz.sizeOf146
 v127:=Tryz.zeroValue146
 t146:=Tryz.underlying141
 a146:=Tryz.isAgg141
 z146:=Tryz.sizeOf141
 v146:=Tryz.zeroValue141
 t148:=Tryz.underlying144
 a148:=Tryz.isAgg144
 z148:=Tryz.sizeOf144
 v148:=Tryz.zeroValue144
 t164:=Tryz.underlying182
 a164:=Tryz.isAgg182
 z164:=Tryz.sizeOf182
 v164:=Tryz.zeroValue182}
theorem rH:Builder.Extra Tryz.prog Pw:={
 sizeBuilder:=QX
 liesBuilder:=QX
 t5:=Tryz.underlying5
 a5:=Tryz.isAgg5
 z5:=Tryz.sizeOf5
 v5:=Tryz.zeroValue5
 infoByte:=QX
 cellsByte:=QX
 sizeByte:=QX
 neB5:=QZ}
theorem rQ(s:ByteArray)(c:Nat)(w:World)(hc:c<=9223372036854775807)(hlen:s.size*c<=140737488355328):
  Calls Tryz.prog 24 #[.string s,.int .i64 c] w fun e w'=>e=.returned (.string ⟨(Lib.repeatL s.data.toList c).toArray⟩)/\Below w.heap.size w w':=Any.strings_Repeat rG rH s c w hc hlen
end Go.Proofs.YtmdnepkekekncaaGreat
namespace Go.Proofs.YtmdnepkekekncaaGreat
open Go.RowKit
structure UnR (W w0 w6:World) (G0:Nat->Prop) (B:Nat) (S:SS) (j:Nat) (wr:World) (T:SS) (G:Nat->Prop) (l:List (Int×List Int)) (m:List Int):Prop where
 lv:UU w0 wr B T G
 mv:Mv G0 w6 G wr
 fi:UI 1048576 (4096+j*1040) 5 T l m
 un:G9 S j T
 q:VF T=true
 pd:j=0\/T.pend=⟨#[]⟩
theorem QWz{w:World}{a:Option Addr}{es:List C5}(h:Db w a es){j:Nat}(hj:j<es.length):∃b o,a=some ⟨b,o,none⟩/\w.cell? ⟨b,o+j*5,none⟩=some (.int .i64 es[j].a)/\w.cell? ⟨b,o+j*5+1,none⟩=some (.int .i64 es[j].b)/\w.cell? ⟨b,o+j*5+2,none⟩=some (.int .i64 es[j].c)/\w.cell? ⟨b,o+j*5+3,none⟩=some (.int .i64 es[j].d)/\w.cell? ⟨b,o+j*5+4,none⟩=some (.int .i64 es[j].e):=by
 rcases h with h|⟨b,o,h1,h2⟩
 ·subst h;simp at hj
 ·exact⟨b,o,h1,h2 j hj 0 _ rfl,h2 j hj 1 _ rfl,h2 j hj 2 _ rfl,h2 j hj 3 _ rfl,h2 j hj 4 _ rfl⟩
theorem CR(ea:Option Addr)(en ec:Nat)(es:List C5)(a:Option Addr)(n c:Nat)(l:List Int)(width:Int)(ahead:ByteArray)(w:World)(he:Db w ea es)(hen:es.length=en)(hx:Ints w a l)(hn:l.length=n)(hl:n<=1048576)(hs:ahead.size<=1048576):
  Calls Tryz.prog 6 #[.int .i64 width,.string ahead,.slice ea en ec,.slice a n c] w fun e w'=>e=.returned (.bool true)/\Below w.heap.size w w':=by
 have HX:=Zy hx;have HN:=Zy hn;have HE:=Zy he;have HEN:=Zy hen;clear hx hn he hen;go_enter Tryz.func6,Tryz.ntmps6
 go_wp2_with fail
 refine(jR w).mono ?_;rintro e w2 ⟨rfl,hb2⟩;have hbb:=hb2.trans ((ZR w2 (.cells #[.string ahead] 9)).mono hb2.size);have HFD:=Zy (Nl w 5 width (some ⟨w2.heap.size,0,none⟩) 1 1 ahead.size [ahead] _ (yE w2 ahead) rfl (by show ahead.size+0<=ahead.size;omega) hs QQ);have Cq:=Zy hbb;clear hb2 hbb;go_wp2_with fail
 generalize w2.alloc (.cells #[.string ahead] 9)=wF at *;refine HFD.out.mono ?_;rintro e w3 (⟨hb3,rfl,-⟩|⟨hg,B,G,S,l0,m0,a1,n1,c1,us,a2,n2,c2,hf,rfl,hL,hI,-,-,-,-,-,-,-⟩)
 ·go_wp2
  go_ret;exact⟨rfl,Cq.out.trans (hb3.mono Cq.out.size)⟩
 have hsz:=Bg hf;have hsum:Uu [ahead]=ahead.size:=by show ahead.size+0=_;omega
 rw[hsum]at hI;have hI:=(hI.wide (N':=1048576) hs).more (PO:=4096) hsz;obtain⟨K,hK,-⟩:=hI.inv;obtain⟨qb,OY⟩:∃qb,qb=VF S:=⟨_,rfl⟩;have HQ:=Zy (qm wF w3 B K S G qb hL hK OY);have HL:=Zy hL;have HI:=Zy hI;have HK:=Zy hK;have HQB:=Zy OY;clear hg hf hL hI hsz hsum hK OY HFD;by_cases h30:30<en
 ·have hgt:(30:Int)<(en:Int):=by omega
  clear h30;go_wp2_with fail
  refine HQ.out.mono ?_;rintro e w4 ⟨rfl,hb4⟩;have xB:=Zy (Cq.out.trans ((HL.out.below hb4).Xw.mono Cq.out.size));clear hb4 HQ;cases qb with
  | false=>
   exact QIo
  | true=>
   exact QIo
 have hgt:¬(30:Int)<(en:Int):=QQ;have H30:=Zy (show en<=30 from QQ);clear h30;go_wp2_with fail
 refine HQ.out.mono ?_;rintro e w4 ⟨rfl,hb4⟩;have bq:=Zy (HL.out.below hb4);have xB:=Zy (Cq.out.trans (bq.out.Xw.mono Cq.out.size));clear hb4 HQ HL;cases qb with
 | false=>
  exact QIo
 | true=>
 have He:=Zy (VX wF w4 B K S G bq.out HK.out);go_wp2_with fail
 refine He.out.mono ?_;intro e w5 h5;obtain⟨rs,v,r,lv,rr,rfl,hrs,KQ,hb5⟩:=h5.hid;obtain⟨a3,n3,c3,rfl⟩:=KQ.t.form;have hfl:∀w,(Instr.field 53 (.agg (Xo rs)) 0).run Tryz.prog w=.ok (.agg #[.slice a3 n3 c3,.int .i64 S.pos]) w:=fun w=>by rw[hrs,Vj KQ.lr w]
 have hb6:=ZR w5 (.cells #[.slice a3 n3 c3,.int .i64 S.pos] 42);obtain⟨d0,d1,-,-⟩:=(Za.new w5 #[.slice a3 n3 c3,.int .i64 S.pos] 42).two;have ht6:=KQ.t.keep (Xv.below _ hb6);have lX:=hb5.trans (hb6.mono hb5.size);have hL6:=bq.out.below lX;have hlo:w4.heap.size<=w5.heap.size:=hb5.size;clear h5 hrs KQ;go_upto_region 7 with fail
 generalize w5.alloc (.cells #[.slice a3 n3 c3,.int .i64 S.pos] 42)=w6 at *;have HLT:=Zy bq.out.lt;have HT6:=Zy ht6;have HLO:=Zy hlo;have HD0:=Zy d0;have HD1:=Zy d1;have HU0:=Zy (show UnR w wF w6 G B S 0 w6 S G l0 m0 from⟨hL6,Mv.below (ZH _ _),HI.out,G9.zero S,HQB.out.symm,.inl rfl⟩);clear hb5 hb6 ht6 lX hL6 hlo He xB bq d0 d1 hfl;go_wp2_with fail
 go_loopw [49] (fun x wr=>∃(j:Nat) (T:SS) (G':Nat->Prop) (lt:List (Int×List Int)) (mt:List Int),x=.int .i64 (j:Int)/\j<=en/\UnR w wF w6 G B S j wr T G' lt mt) (fun x _=>en-(intOf x).toNat)
 case atStart=>exact⟨0,_,_,_,_,rfl,Z4 _,HU0.out⟩
 case round=>
  obtain⟨j,T,G',lt,mt,rfl,hj,hU⟩:=hrel;by_cases hlt:j<en
  ·as_aux_lemma=>
   have hi0:(0:Int)<=(j:Int):=QQ;have hin:(j:Int)<(en:Int):=QQ;have hje:j<es.length:=by rw[HEN.out];exact hlt
   obtain⟨b1,o1,rfl,c0,c1,c2,c3',c4⟩:=QWz (HE.out.below (Cq.out.trans (hU.lv.Xw.mono Cq.out.size))) hje;generalize es[j]=cm at *;have WC:=ZR wr (.cells #[.int .i64 cm.a,.int .i64 cm.b,.int .i64 cm.c,.int .i64 cm.d,.int .i64 cm.e] 39);obtain⟨K',hK',-⟩:=hU.fi.inv;have bn:=Zy (Az w wF _ B 1048576 (4096+j*1040) 5 T G' lt mt cm.a cm.b cm.c cm.d cm.e a n c l (hU.lv.below WC) hU.fi (by have:=H30.out;omega) QQ hU.q (HX.out.below Cq.out) HN.out hl);have HB7:=Zy WC;obtain⟨g0,g1,g2,g3,g4⟩:=(Za.new wr #[.int .i64 cm.a,.int .i64 cm.b,.int .i64 cm.c,.int .i64 cm.d,.int .i64 cm.e] 39).five;have HU:=Zy hU;have HK':=Zy hK';have QKK:=Zy hlt;clear hU WC hje hK' hlt;go_upto_region 10 with fail
   generalize wr.alloc (.cells #[.int .i64 cm.a,.int .i64 cm.b,.int .i64 cm.c,.int .i64 cm.d,.int .i64 cm.e] 39)=w7 at *;go_wp2_with fail
   refine bn.out.mono ?_;rintro e w8 ⟨t,b,rfl,XH,hch⟩;have HW8:=Zy (Cq.out.trans (XH.mono Cq.out.size));clear XH bn;cases b with
   | false=>
    go_wp2;go_ret;exact⟨rfl,HW8.out⟩
   | true=>
   obtain⟨T2,G2,l2,m2,aQ,hM8,hI8,VJ,hq8⟩:=hch rfl;clear hch;have hCd:=VJ.chd HK'.out HU.out.fi.pend HU.out.q;have HU8:=Zy (show UnR w wF w6 G B S (j+1) w8 T2 G2 l2 m2 from⟨aQ,HU.out.mv.trans ((Mv.below HB7.out).trans hM8),hI8.more QQ,HU.out.un.step (by have:=H30.out;have:=QKK.out;omega) hCd,hq8,.inr hCd.pend⟩);clear aQ hM8 hI8 VJ hq8 hCd;go_wp2;exact⟨⟨j+1,_,_,_,_,Qy,QKK.out,HU8.out⟩,by simp[intOf];have:=QKK.out;omega⟩
  ·as_aux_lemma=>
   obtain rfl:j=en:=QQ;obtain⟨K',hK',-⟩:=hU.fi.inv;obtain⟨u1,u2,u3,u4⟩:=Sv (W:=w) hU.fi.pend hU.un hU.q hU.pd H30.out;have HU:=Zy hU;have HK':=Zy hK';have HUF:=Zy (show((T.feed w (runesBytes (List.replicate j 117))).1.told=[]/\(T.feed w (runesBytes (List.replicate j 117))).1.text=S.text/\(T.feed w (runesBytes (List.replicate j 117))).1.pos=S.pos)from⟨u2,u3,u4⟩);have HU1:=Zy u1;clear hU hK' u1 u2 u3 u4;go_wp2_with fail
   refine(rQ ⟨#[117]⟩ j wr (by have:=H30.out;omega) (by show 1*j<=_;have:=H30.out;omega)).mono ?_;rintro e w8 ⟨rfl,XH⟩;rw[show(Lib.repeatL (⟨#[117]⟩:ByteArray).data.toList j)=Lib.repeatL [117] j from rfl,<-Sk j];have aQ:=HU.out.lv.below XH;obtain⟨v0,hv0⟩:=aQ.iZ;have Qzg:(runesBytes (List.replicate j 117)).size<=120:=by
    have:=runesBytes_size_le (List.replicate j 117);rw[YD]at this;have:=H30.out;omega
   have HF:=Zy (ym w wF w8 B 1048576 (4096+j*1040) 5 T G' v0 (runesBytes (List.replicate j 117)) lt mt hv0 HU.out.fi (by have:=H30.out;omega) QQ HU1.out);have HM8:=Zy (HU.out.mv.trans (Mv.below XH));clear XH aQ hv0 Qzg HU1;generalize runesBytes (List.replicate j 117)=ub at *;go_wp2_with fail
   refine HF.out.mono ?_;rintro e w9 ⟨G2,a4,n4,xA,us4,a5,n5,c5,hL9,hM9,hI9,rfl,-,-,hn9,-,-⟩;obtain⟨U1,U2,U3⟩:=HUF.out;rw[U1]at hn9;obtain rfl:n4=0:=hn9.symm;have QVp:=HM8.out.trans hM9;have ib:=QVp.kept (a:=w4.heap.size) HLT.out;have d0:=ib ⟨w5.heap.size,0,none⟩ _ HLO.out HD0.out;have d1:=ib ⟨w5.heap.size,1,none⟩ _ HLO.out HD1.out;have ht9:=HT6.out.keep ib;obtain⟨K9,hK9,-⟩:=hI9.inv;have HL9:=Zy hL9.live;have HK9:=Zy hK9;have HT9:=Zy ht9;have HW9:=Zy (Cq.out.trans (hL9.live.Xw.mono Cq.out.size));have HU2:=Zy U2;have HU3:=Zy U3;clear hL9 hM9 hI9 QVp ib ht9 hK9 U1 U2 U3 HUF HF;generalize(T.feed w ub).1=Z at *;have QKU:=Zy (fun(w':World) (hb:Below w9.heap.size w9 w')=>VX wF w' B K9 Z G2 (HL9.out.below hb) HK9.out);have bJ:=Zy (fun(w':World) (hb:Below w9.heap.size w9 w') (aa:Option Addr) (nn k:Nat) (h:Ints w' aa S.text) (hl:S.text.length=nn)=>Pb aa a3 nn n3 k c3 S.text S.pos w' h (HT9.out.ints.below hb) hl HT9.out.get.1 (by have:=HK.out.tl;omega));go_upto_region 15 with fail
   go_region_held3 (fun w'=>w'.cell? ⟨w5.heap.size,0,none⟩=some (.slice a3 n3 c3)/\w'.cell? ⟨w5.heap.size,1,none⟩=some (.int .i64 S.pos)/\Below w9.heap.size w9 w') (first|exact⟨d0,d1,(ZH _ _).drew⟩|assumption|exact QZn ‹_› ‹_›)
    (first|(go_at_call 16;refine(QKU.out _ (XW (XW ‹_›))).mono ?_;intro e Hl h10;obtain⟨QXw,v10,r10,QzG,QzJ,rfl,Le,xh,KI⟩:=h10.hid;obtain⟨a11,n11,c11,rfl⟩:=xh.t.form;have QVE:∀w,(Instr.field 53 (.agg (Xo QXw)) 0).run Tryz.prog w=.ok (.agg #[.slice a11 n11 c11,.int .i64 S.pos]) w:=(fun w=>by rw[Le,Vj xh.lr w,HU3.out]);have nH:=Zy (show Ints Hl a11 S.text/\S.text.length=n11 from⟨by have h:=xh.t.ints;rw[HU2.out]at h;exact h,by have h:=xh.t.get.1;rw[HU2.out]at h;exact h⟩);clear h10 Le xh)|(go_at_call 19;refine(bJ.out _ (XW (XW ‹_›)) a11 n11 c11 nH.out.1 nH.out.2).mono ?_;rintro e qR ⟨rfl,Wq⟩))
   all_goals go_wp2
   all_goals go_ret
   all_goals exact⟨rfl,ZE HW9.out HW9.out.size (XW (XW ‹_›))⟩
end Go.Proofs.YtmdnepkekekncaaGreat
namespace Go.Proofs.YtmdnepkekekncaaGreat
open Go.ChangeShapes Go.WideShapes Go.ChangeAt Go.RowKit Go.Deep
section
variable {H:Type} {enc:TypeId×Value->H} {P:Program} {w:World} {base:Nat} {spare:Nat->Bool} {held:Bool}
theorem yS{t e:TypeId}{fs:Array Field}{fuel:Nat}{cs:List Value}{x:DataW H×List MemPlace}(ht:P.underlying t=some (.slice e))(he:P.underlying e=some (.struct fs))
  (hone:oneCellFields P fs=true) (hC:P.cellsOf e=fs.size) (h:DataW.trod enc P w base spare held fuel t cs=some x):
  (cs=[.slice none 0 0]/\x=(.nil,[]))\/
  ∃(a:Addr) (len cap m:Nat) (D:Nat->DataW H) (Pl:Nat->List MemPlace),cs=[.slice (some a) len cap]/\base<=a.block/\len<=cap/\cap<=maxLen/\m=(if spare a.block then cap else len)/\
   x=(.slice ((List.range len).map D) ((List.range (m-len)).map fun j=>D (len+j)),MemPlace.row a (m*fs.size)++(List.range m).flatMap Pl)/\
   ∀i,i<m->∃(ys:List (DataW H×List MemPlace)) (n:Nat),D i=.agg (ys.map (·.1))/\Pl i=ys.flatMap (·.2)/\ys.length=fs.size/\
    ∀(j:Nat) (f:Field),fs[j]? =some f->∃(v:Value) (y:DataW H×List MemPlace),w.cell? (a.add (i*fs.size+j))=some v/\ys[j]? =some y/\DataW.trod enc P w base spare held n f.type [v]=some y:=by
 rcases open_slice ht h with h0|⟨a,len,cap,m,n,D,Pl,hcs,hb,hl,hm,hmm,hx,hi⟩
 ·exact .inl h0
 ·refine .inr ⟨a,len,cap,m,D,Pl,hcs,hb,hl,hm,hmm,by rw[hC]at hx;exact hx,fun i him=>?_⟩
  obtain⟨cs',hc,ht'⟩:=hi i him;rw[hC]at hc;obtain⟨ys,n',hn',hy,hlen,hyl,hf⟩:=DataW.trod_struct he ht';obtain⟨_,hcl,hat⟩:=World.cells?_some hc;simp only[YP]at hy;refine⟨ys,n',hy.1,hy.2,hyl,fun j f hj=>?_⟩;obtain⟨ho,hk⟩:=hone_of hone j f hj;have hjl:j<fs.size:=(Array.getElem?_eq_some_iff.1 hj).1;have hcell:=hat j hjl;have hv:cs'[j]? =some (cs'[j]' QQ):=Z8 QQ;have h1:=hf j f hj;rw[ho,hk]at h1;have QVK:(cs'.drop j).take 1=[cs'[j]' QQ]:=by
   rw[List.drop_eq_getElem_cons QQ];rfl
  rw[QVK]at h1;have hys:ys[j]? =some (ys[j]' QQ):=Z8 QQ;refine⟨_,_,?_,hys,h1.trans hys⟩;rw[<-Go.Deep.add_add,hcell,hv]
end
theorem Tv{H:Type}{enc:TypeId×Value->H}{W:World}{f0 f1 f2 f3 f4:Field}{a:Option Addr}{n c:Nat}{d:DataW H}{p:List MemPlace}
  (ht:Tryz.prog.underlying 67=some (.slice 39)) (he:Tryz.prog.underlying 39=some (.struct #[f0,f1,f2,f3,f4])) (hone:oneCellFields Tryz.prog #[f0,f1,f2,f3,f4]=true) (hC:Tryz.prog.cellsOf 39=5)
  (t0:f0.type=3) (t1:f1.type=3) (t2:f2.type=3) (t3:f3.type=3) (t4:f4.type=3)
  (h:DataW.Trod enc Tryz.prog W 0 (fun _=>true) true 67 (.slice a n c) d p):
  ∃es,Db W a es/\es.length=n/\n<=c:=by
 obtain⟨fuel,hf⟩:=h;rcases yS ht he hone hC hf with⟨hcs,-⟩|⟨a',len,cap,m,D,Pl,hcs,-,hl,hm,hmm,-,hi⟩
 ·simp[Value.cells]at hcs
  obtain⟨rfl,rfl,rfl⟩:=hcs;exact⟨[],.inl rfl,rfl,QQ⟩
 ·simp[Value.cells]at hcs
  obtain⟨rfl,rfl,rfl⟩:=hcs;simp only[if_true]at hmm;subst hmm;obtain⟨b,o,sp'⟩:=a';by_cases h0:n=0
  ·exact⟨[],.inl rfl,by simp[h0],hl⟩
  ·have hsp:sp'=none:=by
    obtain⟨ys,n,-,-,-,hf⟩:=hi 0 QQ;obtain⟨v,y,hc,-,-⟩:=hf 0 f0 rfl;simpa[Addr.add]using World.cell?_spot hc
   subst hsp;have hadd:∀k,(⟨b,o,none⟩:Addr).add k=⟨b,o+k,none⟩:=fun k=>QF
   have hall:∀i:Nat,∃s:C5,i<n->∀j v,(s.cells)[j]? =some v->W.cell? ⟨b,o+(i*5+j),none⟩=some v:=by
    intro i;by_cases hil:i<n
    ·obtain⟨ys,n,-,-,-,hf⟩:=hi i QQ
     obtain⟨v0,y0,c0,-,r0⟩:=hf 0 f0 rfl;obtain⟨v1,y1,c1,-,r1⟩:=hf 1 f1 rfl;obtain⟨v2,y2,c2,-,r2⟩:=hf 2 f2 rfl;obtain⟨v3,y3,c3,-,r3⟩:=hf 3 f3 rfl;obtain⟨v4,y4,c4,-,r4⟩:=hf 4 f4 rfl;rw[t0]at r0;rw[t1]at r1;rw[t2]at r2;rw[t3]at r3;rw[t4]at r4;obtain⟨i0,hi0,-,-⟩:=DataW.trod_int Tryz.underlying3 r0;obtain⟨i1,hi1,-,-⟩:=DataW.trod_int Tryz.underlying3 r1;obtain⟨i2,hi2,-,-⟩:=DataW.trod_int Tryz.underlying3 r2;obtain⟨i3,hi3,-,-⟩:=DataW.trod_int Tryz.underlying3 r3;obtain⟨i4,hi4,-,-⟩:=DataW.trod_int Tryz.underlying3 r4;simp at hi0 hi1 hi2 hi3 hi4;subst hi0 hi1 hi2 hi3 hi4;rw[hadd]at c0 c1 c2 c3 c4;refine⟨⟨i0,i1,i2,i3,i4⟩,fun _ j v hj=>?_⟩
     match j,hj with
     | 0,hj=>simp only[C5.cells,List.getElem?_cons_zero,ZL]at hj;subst hj;exact c0
     | 1,hj=>simp only[C5.cells,List.getElem?_cons_succ,List.getElem?_cons_zero,ZL]at hj;subst hj;exact c1
     | 2,hj=>simp only[C5.cells,List.getElem?_cons_succ,List.getElem?_cons_zero,ZL]at hj;subst hj;exact c2
     | 3,hj=>simp only[C5.cells,List.getElem?_cons_succ,List.getElem?_cons_zero,ZL]at hj;subst hj;exact c3
     | 4,hj=>simp only[C5.cells,List.getElem?_cons_succ,List.getElem?_cons_zero,ZL]at hj;subst hj;exact c4
     | j+5,hj=>simp[C5.cells]at hj
    ·exact⟨⟨0,0,0,0,0⟩,fun h=>absurd h hil⟩
   obtain⟨f,hf⟩:=Classical.axiomOfChoice hall;refine⟨(List.range n).map f,.inr ⟨b,o,rfl,fun i hi' j v hj=>?_⟩,QJ,hl⟩;have hil:i<n:=by simpa using hi'
   exact hf i hil j v (by simpa using hj)
end Go.Proofs.YtmdnepkekekncaaGreat

/- LiftTopBounds: joined, no condition of its own. -/
import Derived.Test.YtmdcencmiopmmaaGreatTbJoinT
import Derived.Test.YtmdcencmiopmmaaGreatTbJoinJ19
set_option linter.unusedVariables false
set_option linter.unusedSimpArgs false
set_option maxRecDepth 100000
set_option maxHeartbeats 12000000
namespace Go.Proofs.YtmdcencmiopmmaaGreat
open Go.RowKit
structure Hi where
 ls:List (List Int)
 most:Int
 QM:Int
 Qm:List Int
 pat:List Int
 older:Bool
def Zc(lv:Value)(most QM:Int)(sv pv:Value)(older:Bool):Array Value:=#[lv,.int .i64 most,.int .i64 QM,sv,pv,.bool older]
structure Un (w:World) (lv:Value) (most QM:Int) (sv pv:Value) (older:Bool) (h:Hi):Prop where
 ls:∃vs,Vs w lv vs/\Lists w vs h.ls
 most:most=h.most
 QM:QM=h.QM
 Qm:Sl w sv h.Qm
 pat:Sl w pv h.pat
 older:older=h.older
theorem Un.keep{w w':World}{lv:Value}{most QM:Int}{sv pv:Value}{older:Bool}{h:Hi}(r:Un w lv most QM sv pv older h)(hc:∀p v,w.cell? p=some v->w'.cell? p=some v):Un w' lv most QM sv pv older h:=by
 obtain⟨vs,h1,h2⟩:=r.ls;exact⟨⟨vs,h1.keep hc,h2.keep hc⟩,r.most,r.QM,r.Qm.keep hc,r.pat.keep hc,r.older⟩
theorem Un.below{w w':World}{lv:Value}{most QM:Int}{sv pv:Value}{older:Bool}{h:Hi}(r:Un w lv most QM sv pv older h)(hb:Below w.heap.size w w'):Un w' lv most QM sv pv older h:=r.keep (Qk hb)
def JU(l:List Int):Bool:=decide (200<l.length)
def qK(h:Hi):Int:=
 if h.most<1\/50<h.most\/h.most<h.ls.length\/h.QM<0\/(h.ls.length:Int)<h.QM then 1
 else if h.ls.any JU || JU h.Qm || JU h.pat then 2 else 0
theorem QD.six{w:World}{B:Nat}{u0 u1 u2 u3 u4 u5:Value}{e:TypeId}(h:QD w B #[u0,u1,u2,u3,u4,u5] e):w.cell? ⟨B,0,none⟩=some u0/\w.cell? ⟨B,1,none⟩=some u1/\w.cell? ⟨B,2,none⟩=some u2/\w.cell? ⟨B,3,none⟩=some u3/\w.cell? ⟨B,4,none⟩=some u4/\w.cell? ⟨B,5,none⟩=some u5:=⟨h.cell 0,h.cell 1,h.cell 2,h.cell 3,h.cell 4,h.cell 5⟩
theorem QYV{α:Type}(p:α->Bool)(l:List α)(a b:α):(l++[a,b]).any p=(l.any p || p a || p b):=by simp[List.any_append,Bool.or_assoc]
theorem Gn{X:List (List Int)}{i:Nat}(h:i<X.length):rx X i∈X:=by rw[jI h];exact XF h
theorem Kh(lv:Value)(most QM:Int)(sv pv:Value)(older:Bool)(h:Hi)(w:World)(r:Un w lv most QM sv pv older h):
  Calls Tryz.prog 194 #[.agg (Zc lv most QM sv pv older)] w fun e w'=>e=.returned (.int .i64 (qK h))/\Below w.heap.size w w':=by
 obtain⟨⟨vs,hvs,hls⟩,rfl,rfl,ZI,ZL,rfl⟩:=r;obtain⟨la,ln,lc,rfl,hl1,hl2,hl3,hl4,hl5⟩:=hvs;obtain⟨sa,sn,sc,rfl,hs1,hs2,hs3,hs4,hs5⟩:=ZI;obtain⟨pa,pn,pc,rfl,hp1,hp2,hp3,Wl,Jh⟩:=ZL;have hll:h.ls.length=ln:=by rw[<-hls.len];exact hl1
 unfold Zc;have hB:=QD.new w #[.slice la ln lc,.int .i64 h.most,.int .i64 h.QM,.slice sa sn sc,.slice pa pn pc,.bool h.older] 65;obtain⟨c0,c1,c2,c3,c4,c5⟩:=hB.six;have hacc:=QC w (.cells #[.slice la ln lc,.int .i64 h.most,.int .i64 h.QM,.slice sa sn sc,.slice pa pn pc,.bool h.older] 65);have hE1:qK h=if h.most<1\/50<h.most\/h.most<ln\/h.QM<0\/(ln:Int)<h.QM then 1 else if h.ls.any JU || JU h.Qm || JU h.pat then 2 else 0:=by rw[qK,hll]
 by_cases hbad:h.most<1\/50<h.most\/h.most<ln\/h.QM<0\/(ln:Int)<h.QM
 ·rw[hE1,if_pos hbad]
  have hd:h.most<1\/(1<=h.most/\50<h.most)\/(1<=h.most/\h.most<=50/\h.most<ln)\/(1<=h.most/\h.most<=50/\(ln:Int)<=h.most/\h.QM<0)\/(1<=h.most/\h.most<=50/\(ln:Int)<=h.most/\0<=h.QM/\(ln:Int)<h.QM):=by omega
  clear hE1 hbad hl1 hs1 hp1 hl5 hs5 Jh hll;generalize h.most=M at *;generalize h.QM=W at *;rcases hd with h1|⟨h1,h2⟩|⟨h1,h2,h3⟩|⟨h1,h2,h3,h4⟩|⟨h1,h2,h3,h4,h5⟩
  all_goals
   go_enter Tryz.func194,Tryz.ntmps194
   go_wp2;exact QAE
 ·rw[if_neg hbad]at hE1
  have hd:1<=h.most/\h.most<=50/\(ln:Int)<=h.most/\0<=h.QM/\h.QM<=(ln:Int):=by omega
  obtain⟨g1,g2,g3,g4,g5⟩:=hd;have hln:ln<=50:=by omega
  have QKO:ln<=4398046511104:=by omega
  have HE:=QQ hE1;have HL:=QQ hl1;have DR:=QQ hs1;have HP1:=QQ hp1;have HL5:=QQ hl5;have Kt:=QQ hll;have HSL:=QQ hls.sls;have HSC:=QQ (show Sl ((w.alloc (.cells #[.slice la ln lc,.int .i64 h.most,.int .i64 h.QM,.slice sa sn sc,.slice pa pn pc,.bool h.older] 65))) (.slice sa sn sc) h.Qm from Sl.below (w:=w) ⟨sa,sn,sc,rfl,hs1,hs2,hs3,hs4,hs5⟩ hacc);have HPC:=QQ (show Sl ((w.alloc (.cells #[.slice la ln lc,.int .i64 h.most,.int .i64 h.QM,.slice sa sn sc,.slice pa pn pc,.bool h.older] 65))) (.slice pa pn pc) h.pat from Sl.below (w:=w) ⟨pa,pn,pc,rfl,hp1,hp2,hp3,Wl,Jh⟩ hacc);have Dy:=QQ (hls.below hacc);clear hE1 hbad hl1 hs1 hp1 hl5 hll;have QKP:=hl4.below hacc;have hsz:w.heap.size<(w.alloc (.cells #[.slice la ln lc,.int .i64 h.most,.int .i64 h.QM,.slice sa sn sc,.slice pa pn pc,.bool h.older] 65)).heap.size:=by simp
  generalize h.most=M at *;generalize h.QM=W at *;go_enter Tryz.func194,Tryz.ntmps194
  go_upto_region 1 with fail
  change Code.wp _ _ _ _ (w.alloc (.cells #[.slice la ln lc,.int .i64 M,.int .i64 W,.slice sa sn sc,.slice pa pn pc,.bool h.older] 65));generalize(w.alloc (.cells #[.slice la ln lc,.int .i64 M,.int .i64 W,.slice sa sn sc,.slice pa pn pc,.bool h.older] 65))=w1 at *;go_wp2;have hVL:∀u:World,Y6 (u.alloc (.cells #[.slice sa sn sc,.slice pa pn pc] 26)) (some ⟨u.heap.size,0,none⟩) [.slice sa sn sc,.slice pa pn pc]:=fun u=>YJ u [.slice sa sn sc,.slice pa pn pc] _
  have Oe:=QQ hVL;have HS2:=QQ (show FD [.slice sa sn sc,.slice pa pn pc]from fun i hi=>by
   rcases(show i=0\/i=1 by simp at hi;omega)with rfl|rfl
   ·exact⟨sa,sn,sc,rfl⟩
   ·exact⟨pa,pn,pc,rfl⟩)
  have HLV:=QQ (show vs.length+2<=4398046511104 by rw[HL.out];omega);clear hVL
  go_region_held3 (fun w'=>w'.cell? ⟨w.heap.size,0,none⟩=some (.slice la ln lc)/\w'.cell? ⟨w.heap.size,3,none⟩=some (.slice sa sn sc)/\w'.cell? ⟨w.heap.size,4,none⟩=some (.slice pa pn pc)/\Below w1.heap.size w1 w') (first|exact⟨c0,c3,c4,(Qx _ _).drew⟩|assumption|exact SF ‹_› (QC _ _)|exact SF ‹_› ‹_›)
   (first|(refine WQ (by rfl) _ _ rfl _ (.slice a2 n2 c2) vs [.slice sa sn sc,.slice pa pn pc] _ 2 2 rfl rfl (jf.alloc _) (Oe.out _) HS2.out rfl HLV.out (Below.size (Zy (Zy (Zy ‹_›)))) ?_;intro v9 w9 o9 ZE;have fu:=SB ‹_› ZE jf.row hsz hsz hsz;obtain⟨a9,n9,c9,rfl⟩:=o9.form)|(refine WQ (by rfl) _ _ rfl _ (.slice a2 n2 c2) vs [.slice sa sn sc,.slice pa pn pc] _ 2 2 rfl rfl jf ((Y6.drew (Oe.out _)).below hb2) HS2.out rfl HLV.out (Below.size (Zy (Zy (Zy ‹_›)))) ?_;intro v9 w9 o9 ZE;have fu:=SB ‹_› ZE jf.row hsz hsz hsz;obtain⟨a9,n9,c9,rfl⟩:=o9.form)|(go_at_call 160;((with_reducible refine(xN w1.heap.size la ln lc vs _ (QKP.below (Zy (Zy (Zy ‹_›)))) (Below.size (Zy (Zy (Zy ‹_›)))) HSL.out HL.out QKO HL5.out).mono ?_);rintro e w2 ⟨v2,rfl,jf,hb2⟩;obtain⟨a2,n2,c2,rfl⟩:=jf.form)))
  all_goals
   have hS:Below w1.heap.size w1 w9:=Zy (Zy (Zy fu));have hLi:Lists w9 (vs++[.slice sa sn sc,.slice pa pn pc]) (h.ls++[h.Qm,h.pat]):=(Dy.out.below hS).append ((Lists.one (HSC.out.below hS)).append (Lists.one (HPC.out.below hS)));obtain⟨z1,z2,z3,z4,z5⟩:=o9.vs.get;have HLI:=QQ hLi;have HZ:=QQ z1;have hn9:n9<=52:=by rw[<-z1,QE,HL.out];simp;omega
   have HNX:=QQ (show(h.ls++[h.Qm,h.pat]).length=n9 by rw[<-hLi.len];exact z1);have hbb:=QW hacc (ZR hsz) hS;clear hLi z1 z5 fu;go_wp2
   go_loop [44] (fun iv=>∃k:Nat,iv=.int .i64 (k:Int)/\k<=n9/\∀j,j<k->JU (rx (h.ls++[h.Qm,h.pat]) j)=false) (fun iv=>n9-(intOf iv).toNat)
   case atStart=>exact⟨0,rfl,by omega,fun j hj=>by omega⟩
   case round=>
    obtain⟨k,rfl,hk,hno⟩:=hrel;have HO:=QQ hno;clear hno;by_cases hlt:k<n9
    ·obtain⟨b1,o1,rfl,hc⟩:=z4.at (k:=k) (by rw[HZ.out];exact hlt)
     have e1:=hc k (by rw[HZ.out];exact hlt);obtain⟨xa,xn,xc,x1,x2,x3,x4,x5,x6⟩:=HLI.out.sl k (by rw[HNX.out];exact hlt);rw[x1]at e1;have HX:=QQ x2;clear hc z4 x1 x2 x6;by_cases hlong:200<xn
     ·have HR:=QQ (show qK h=2 by
       rw[HE.out];have hh:(h.ls++[h.Qm,h.pat]).any JU=true:=by
        rw[List.any_eq_true];exact⟨_,Gn (by rw[HNX.out];exact hlt),by simp[JU,HX.out,hlong]⟩
       rw[QYV]at hh;rw[if_pos hh])
      go_wp2;go_ret;exact⟨ZQ HR.out.symm,hbb⟩
     ·have HN:=QQ (show JU (rx (h.ls++[h.Qm,h.pat]) k)=false by simp[JU,HX.out];omega)
      go_wp2
      go_round
      case rel=>exact⟨k+1,by go_num,by omega,fun j hj=>by
       rcases Qp.1 hj with h|rfl
       ·exact HO.out j h
       ·exact HN.out⟩
      case measure=>simp[intOf];omega
    ·obtain rfl:k=n9:=by omega
     have HR:=QQ (show qK h=0 by
      rw[HE.out];have hh:(h.ls++[h.Qm,h.pat]).any JU=false:=by
       rw[List.any_eq_false];intro x hx;obtain⟨j,hj,rfl⟩:=Zi.1 hx;have:=HO.out j (by rw[HNX.out]at hj;exact hj);rw[jI hj]at this;simpa using this
      rw[QYV]at hh;rw[if_neg (by simp[hh])])
     go_wp2;go_ret;exact⟨ZQ HR.out.symm,hbb⟩
def Jn(base:Nat)(w:World)(vs:List Value)(X:List (List Int)):Prop:=vs.length=X.length/\∀i,i<X.length->Own 3 base w (vx vs i) (rx X i)
theorem Jn.imp{base base':Nat}{w w':World}{vs:List Value}{X:List (List Int)}(h:Jn base w vs X)(hk:∀v xs,Own 3 base w v xs->Own 3 base' w' v xs):Jn base' w' vs X:=⟨h.1,fun i hi=>hk _ _ (h.2 i hi)⟩
theorem Jn.snoc{base:Nat}{w:World}{vs:List Value}{X:List (List Int)}{v:Value}{xs:List Int}(h:Jn base w vs X)(hv:Own 3 base w v xs):Jn base w (vs++[v]) (X++[xs]):=by
 refine⟨by simp[h.1],fun i hi=>?_⟩;by_cases hl:i<X.length
 ·rw[Ar (by rw[h.1];exact hl),BL hl];exact h.2 i hl
 ·obtain rfl:i=X.length:=by simp at hi;omega
  have h1:=jH (X:=X) (Y:=[xs]) (i:=0);have h2:=yw (vs:=vs) (us:=[v]) (i:=0);rw[h.1]at h2;rw[Zp]at h1 h2;rw[h1,h2];exact hv
theorem Jn.nil(base:Nat)(w:World):Jn base w [] []:=⟨rfl,fun i hi=>by simp at hi⟩
def aT(h:Hi)(w:World)(e:Ending)(w':World):Prop:=
 ∃lv sv pv vs,e=.returned (.agg (Zc lv h.most h.QM sv pv h.older))/\Zk 26 w.heap.size w' lv vs/\Jn w.heap.size w' vs h.ls/\Own 3 w.heap.size w' sv h.Qm/\Own 3 w.heap.size w' pv h.pat/\Below w.heap.size w w'
theorem QD.Z7{w:World}{B:Nat}{u0 u1 u2 u3 u4 u5:Value}{e:TypeId}(h:QD w B #[u0,u1,u2,u3,u4,u5] e):w.frozen? ⟨B,0,none⟩=false/\w.frozen? ⟨B,1,none⟩=false/\w.frozen? ⟨B,2,none⟩=false/\w.frozen? ⟨B,3,none⟩=false/\w.frozen? ⟨B,4,none⟩=false/\w.frozen? ⟨B,5,none⟩=false:=⟨h.free 0,h.free 1,h.free 2,h.free 3,h.free 4,h.free 5⟩
theorem Jq(lv:Value)(most QM:Int)(sv pv:Value)(older:Bool)(h:Hi)(w:World)(r:Un w lv most QM sv pv older h)(rX:h.ls.length<=50)(Si:∀i,i<h.ls.length->(rx h.ls i).length<=200)(qd:h.Qm.length<=200)(QXY:h.pat.length<=200):
  Calls Tryz.prog 195 #[.agg (Zc lv most QM sv pv older)] w (aT h w):=by
 obtain⟨⟨vs,hvs,hls⟩,rfl,rfl,ZI,ZL,rfl⟩:=r;obtain⟨la,ln,lc,rfl,hl1,hl2,hl3,hl4,hl5⟩:=hvs;obtain⟨sa,sn,sc,rfl,hs1,hs2,hs3,hs4,hs5⟩:=ZI;obtain⟨pa,pn,pc,rfl,hp1,hp2,hp3,Wl,Jh⟩:=ZL;have hll:h.ls.length=ln:=by rw[<-hls.len];exact hl1
 have hln:ln<=50:=by omega
 have hsn:sn<=200:=by omega
 have hpn:pn<=200:=by omega
 unfold Zc;have HC:=QQ (show aT h w=aT ⟨h.ls,h.most,h.QM,h.Qm,h.pat,h.older⟩ w from rfl);have hB:=(QD.new w #[.slice la ln lc,.int .i64 h.most,.int .i64 h.QM,.slice sa sn sc,.slice pa pn pc,.bool h.older] 65).alloc (.cells #[.slice none 0 0,.int .i64 0,.int .i64 0,.slice none 0 0,.slice none 0 0,.bool false] 65);have hR:=QD.new (w.alloc (.cells #[.slice la ln lc,.int .i64 h.most,.int .i64 h.QM,.slice sa sn sc,.slice pa pn pc,.bool h.older] 65)) #[.slice none 0 0,.int .i64 0,.int .i64 0,.slice none 0 0,.slice none 0 0,.bool false] 65;rw[QJ]at hR;have hacc:=QS w (.cells #[.slice la ln lc,.int .i64 h.most,.int .i64 h.QM,.slice sa sn sc,.slice pa pn pc,.bool h.older] 65) (.cells #[.slice none 0 0,.int .i64 0,.int .i64 0,.slice none 0 0,.slice none 0 0,.bool false] 65);have hsz:w.heap.size+2<=((w.alloc (.cells #[.slice la ln lc,.int .i64 h.most,.int .i64 h.QM,.slice sa sn sc,.slice pa pn pc,.bool h.older] 65)).alloc (.cells #[.slice none 0 0,.int .i64 0,.int .i64 0,.slice none 0 0,.slice none 0 0,.bool false] 65)).heap.size:=by simp
 have HL:=QQ hl1;have DR:=QQ hs1;have HP1:=QQ hp1;have F8:=QQ hs5;have HP5:=QQ Jh;have Kt:=QQ hll;have Dy:=QQ hls;have QVE:=QQ Si;clear hl1 hs1 hp1 hl5 hs5 Jh hll hls Si rX qd QXY;generalize h.most=M at *;generalize h.QM=W at *;generalize h.older=O at *;go_enter Tryz.func195,Tryz.ntmps195
 go_upto_region 1 with fail
 change Code.wp _ _ _ _ ((w.alloc (.cells #[.slice la ln lc,.int .i64 M,.int .i64 W,.slice sa sn sc,.slice pa pn pc,.bool O] 65)).alloc (.cells #[.slice none 0 0,.int .i64 0,.int .i64 0,.slice none 0 0,.slice none 0 0,.bool false] 65));generalize((w.alloc (.cells #[.slice la ln lc,.int .i64 M,.int .i64 W,.slice sa sn sc,.slice pa pn pc,.bool O] 65)).alloc (.cells #[.slice none 0 0,.int .i64 0,.int .i64 0,.slice none 0 0,.slice none 0 0,.bool false] 65))=w1 at *;obtain⟨c0,c1,c2,c3,c4,c5⟩:=hB.six;obtain⟨f0,-⟩:=hB.Z7;go_wp2;have hB1:=hB.set 0 (.slice none 0 0);have IW:=hR.other (a:=⟨w.heap.size,0,none⟩) (by simp) (.slice none 0 0);have QXO:=hacc.setCell (p:=⟨w.heap.size,0,none⟩) (QU _) (.slice none 0 0);have hsz1:w.heap.size+2<=(w1.setCell ⟨w.heap.size,0,none⟩ (.slice none 0 0)).heap.size:=by rw[size_setCell];exact hsz
 simp only[QZ,QX]at hB1;clear hB hR hacc hsz c0 c1 c2 c3 c4 c5 f0
 go_loopw [11] (fun iv wr=>∃(k:Nat) (ra:Option Addr) (rn rc:Nat) (us:List Value),iv=.int .i64 (k:Int)/\k<=ln/\QD wr w.heap.size #[.slice ra rn rc,.int .i64 M,.int .i64 W,.slice sa sn sc,.slice pa pn pc,.bool O] 65/\QD wr (w.heap.size+1) #[.slice none 0 0,.int .i64 0,.int .i64 0,.slice none 0 0,.slice none 0 0,.bool false] 65/\
   Zk 26 (w.heap.size+2) wr (.slice ra rn rc) us/\Jn (w.heap.size+2) wr us (h.ls.take k)/\Below w.heap.size w wr/\w.heap.size+2<=wr.heap.size) (fun iv _=>ln-(intOf iv).toNat)
 case atStart=>exact⟨0,none,0,0,[],rfl,by omega,hB1,IW,Zk.nil _ _ _,Jn.nil _ _,QXO,hsz1⟩
 case round=>
  obtain⟨k,ra,rn,rc,us,rfl,hk,hB,hR,hown,hol,hbel,hsz⟩:=hrel;have LX:=QQ hol;clear hol;obtain⟨c0,c1,c2,c3,c4,c5⟩:=hB.six;obtain⟨f0,f1,f2,f3,f4,f5⟩:=hB.Z7;by_cases hlt:k<ln
  ·obtain⟨b1,o1,rfl,hc⟩:=(hl4.below hbel).at (k:=k) (by rw[HL.out];exact hlt)
   have e1:=hc k (by rw[HL.out];exact hlt);obtain⟨xa,xn,xc,x1,x2,x3,x4,x5,x6⟩:=(Dy.out.below hbel).sl k (by rw[Kt.out];exact hlt);rw[x1]at e1;have X0:xn<=17592186044416:=by have:=QVE.out k (by rw[Kt.out];exact hlt);omega
   have iy:=QQ x2;have HX6:=QQ x6;have HU:=QQ (show us.length+1<=4398046511104 by rw[LX.out.1,QT];omega);clear hc x1 x2 x6;go_wp2;have Oe:=QQ (show∀(u:World) (x:Option Addr) (n c:Nat),Y6 (u.alloc (.cells #[.slice x n c] 26)) (some ⟨u.heap.size,0,none⟩) [.slice x n c]from fun u x n c=>YJ u [.slice x n c] _);have DR:=QQ (show∀(x:Option Addr) (n c:Nat),FD [.slice x n c]from fun x n c i hi=>by
    obtain rfl:i=0:=by simp at hi;omega
    exact⟨x,n,c,rfl⟩)
   have x5':=x5.drew
   go_region_law (first|(go_simp;go_at_call 43;refine(Ql xa xn xc _ wr.drew x5' iy.out X0 HX6.out).mono ?_;rintro e w2 ⟨v2,rfl,jf,hb2⟩;obtain⟨a2,n2,c2,rfl⟩:=jf.form;have hB2:=hB.drew.below hb2 hB.lt;have d0:=hB2.cell 0;have hlt2:=hB2.lt;have ho2:=hown.drew.kept hb2;have hz2:w.heap.size+2<=w2.heap.size:=QL hsz hb2.size;simp only[List.getElem?_toArray,List.getElem?_cons_zero]at d0)|(refine WQ (by rfl) _ _ rfl _ (.slice ra rn rc) us [.slice a2 n2 c2] _ 1 1 rfl rfl (ho2.alloc _) (Oe.out _ _ _ _) (DR.out _ _ _) rfl HU.out (ZV hz2 _) ?_;intro v9 w9 o9 ZE;obtain⟨a9,n9,c9,rfl⟩:=o9.form;have Kk:=(hB2.alloc _).grown ZE (ho2.ZA hB2 (by decide));have e0:=Kk.cell 0;have g0:=Kk.free 0;simp only[List.getElem?_toArray,List.getElem?_cons_zero]at e0))
   all_goals
    go_wp2;go_roundw
    case rel=>
     have OQ:=Kk.set 0 (.slice a9 n9 c9);simp only[QZ,QX]at OQ;have hR2:=(((hR.drew.below hb2 (by show w.heap.size+1<wr.heap.size;omega)).alloc _).grown ZE (ho2.ne (by omega))).other (a:=⟨w.heap.size,0,none⟩) (by simp) (.slice a9 n9 c9);have Yk:Below w.heap.size w w2:=QW hbel.drew (by show w.heap.size<=wr.heap.size;omega) hb2;have QZ0:=ZE.size;rw[QJ]at QZ0;refine⟨k+1,a9,n9,c9,_,by go_num,by omega,OQ,hR2,o9.other (o9.ZA Kk (by decide)) _,?_,((Yk.alloc (by omega) _).grown ZE (by simp;omega) (fun j hj=>by have:=ho2.row j hj;omega)).setCell (QU _) _,by rw[size_setCell];omega⟩;rw[U0 (by rw[Kt.out];exact hlt)];have hbase:w.heap.size+2<=wr.heap.size:=hsz;refine Jn.snoc (LX.out.imp fun v xs hv=>?_) ?_
     ·have h1:=((hv.drew.kept hb2).alloc (.cells #[.slice a2 n2 c2] 26)).beside (ho2.alloc _) (by decide) ZE
      exact h1.other (h1.ZA Kk (by decide)) _
     ·have h1:=((jf.mono (base':=w.heap.size+2) hbase).alloc (.cells #[.slice a2 n2 c2] 26)).beside (ho2.alloc _) (by decide) ZE
      exact h1.other (h1.ZA Kk (by decide)) _
    case measure=>simp[intOf];omega
  ·obtain rfl:k=ln:=by omega
   have hol:=LX.out;rw[Q5 (by rw[Kt.out];omega)]at hol;have uy:=QQ hol;have QZ8:=(hs4.below hbel).drew;have QXX:=(Wl.below hbel).drew;have Sb:sn<=17592186044416:=by omega
   have QXQ:pn<=17592186044416:=by omega
   clear hol hl4 hlt;go_wp2
   go_region_law (first|(go_simp;go_at_call 43;((with_reducible refine(Ql pa pn pc h.pat wS (QXX.below hbS) HP1.out QXQ HP5.out).mono ?_));rintro e w9 ⟨vP,rfl,Rp,YN⟩;obtain⟨aP,nP,cP,rfl⟩:=Rp.form;have Kk:=hBS.below YN hBS.lt;obtain⟨e0,e1,e2,e3,e4,e5⟩:=Kk.six;obtain⟨g0,g1,g2,g3,g4,g5⟩:=Kk.Z7;have oS:=Ro.kept YN;have oP:=Rp.mono hbS.size;have TZ:=QW hbS hbS.size YN)|(go_simp;go_at_call 43;((with_reducible refine(Ql sa sn sc h.Qm wP (QZ8.below hbP) DR.out Sb F8.out).mono ?_));rintro e w9 ⟨vS,rfl,Ro,YN⟩;obtain⟨aS,nS,cS,rfl⟩:=Ro.form;have Kk:=hBP.below YN hBP.lt;obtain⟨e0,e1,e2,e3,e4,e5⟩:=Kk.six;obtain⟨g0,g1,g2,g3,g4,g5⟩:=Kk.Z7;have oS:=Ro.mono hbP.size;have oP:=Rp.kept YN;have TZ:=QW hbP hbP.size YN)|(go_simp;go_at_call 43;((with_reducible refine(Ql sa sn sc h.Qm wr.drew QZ8 DR.out Sb F8.out).mono ?_));rintro e wS ⟨vS,rfl,Ro,hbS⟩;obtain⟨aS,nS,cS,rfl⟩:=Ro.form;have hBS:=hB.drew.below hbS hB.lt;obtain⟨d0,d1,d2,d3,d4,d5⟩:=hBS.six;obtain⟨f0',f1',f2',f3',f4',f5'⟩:=hBS.Z7)|(go_simp;go_at_call 43;((with_reducible refine(Ql pa pn pc h.pat wr.drew QXX HP1.out QXQ HP5.out).mono ?_));rintro e wP ⟨vP,rfl,Rp,hbP⟩;obtain⟨aP,nP,cP,rfl⟩:=Rp.form;have hBP:=hB.drew.below hbP hB.lt;obtain⟨d0,d1,d2,d3,d4,d5⟩:=hBP.six;obtain⟨f0',f1',f2',f3',f4',f5'⟩:=hBP.Z7))
   all_goals
    have yX:=(Kk.set 3 (.slice aS nS cS)).set 4 (.slice aP nP cP);simp only[QZ,QX,QY]at yX;obtain⟨q0,q1,q2,q3,q4,q5⟩:=yX.six;have Cm:=hR.drew.below TZ (by show w.heap.size+1<wr.heap.size;omega);have TV:=(Cm.other (a:=⟨w.heap.size,3,none⟩) (by simp) (.slice aS nS cS)).other (a:=⟨w.heap.size,4,none⟩) (by simp) (.slice aP nP cP);obtain⟨p0,p1,p2,p3,p4,p5⟩:=TV.six;obtain⟨t0,t1,t2,t3,t4,t5⟩:=TV.Z7;go_wp2;have hG:=((((((TV.set 0 (.slice ra rn rc)).set 1 (.int .i64 M)).set 2 (.int .i64 W)).set 3 (.slice aS nS cS)).set 4 (.slice aP nP cP)).set 5 (.bool O));simp only[QZ,QX,QY]at hG;obtain⟨y0,y1,y2,y3,y4,y5⟩:=hG.six;have hz2:w.heap.size+2<=wr.drew.heap.size:=hsz;have qh:Below w.heap.size w w9:=QW hbel.drew (by show w.heap.size<=wr.heap.size;omega) TZ;refine QV (v:=.agg (Zc (.slice ra rn rc) M W (.slice aS nS cS) (.slice aP nP cP) O)) (by simp[results,Tryz.results195,go_sem,y0,y1,y2,y3,y4,y5,Zc]) rfl ?_;rw[HC.out];have kV:∀(v:Value) (us:List Value),Zk 26 (w.heap.size+2) w9 v us->Zk 26 w.heap.size ((((((((w9.setCell ⟨w.heap.size,3,none⟩ (.slice aS nS cS)).setCell ⟨w.heap.size,4,none⟩ (.slice aP nP cP)).setCell ⟨w.heap.size+1,0,none⟩ (.slice ra rn rc)).setCell ⟨w.heap.size+1,1,none⟩ (.int .i64 M)).setCell ⟨w.heap.size+1,2,none⟩ (.int .i64 W)).setCell ⟨w.heap.size+1,3,none⟩ (.slice aS nS cS)).setCell ⟨w.heap.size+1,4,none⟩ (.slice aP nP cP)).setCell ⟨w.heap.size+1,5,none⟩ (.bool O)) v us:=fun v us h=>((((((((h.setCell (by simp) _).setCell (by simp) _).setCell (by simp) _).setCell (by simp) _).setCell (by simp) _).setCell (by simp) _).setCell (by simp) _).setCell (by simp) _).mono (by omega)
    have kO:∀(v:Value) (xs:List Int),Own 3 (w.heap.size+2) w9 v xs->Own 3 w.heap.size ((((((((w9.setCell ⟨w.heap.size,3,none⟩ (.slice aS nS cS)).setCell ⟨w.heap.size,4,none⟩ (.slice aP nP cP)).setCell ⟨w.heap.size+1,0,none⟩ (.slice ra rn rc)).setCell ⟨w.heap.size+1,1,none⟩ (.int .i64 M)).setCell ⟨w.heap.size+1,2,none⟩ (.int .i64 W)).setCell ⟨w.heap.size+1,3,none⟩ (.slice aS nS cS)).setCell ⟨w.heap.size+1,4,none⟩ (.slice aP nP cP)).setCell ⟨w.heap.size+1,5,none⟩ (.bool O)) v xs:=fun v us h=>((((((((h.setCell (by simp) _).setCell (by simp) _).setCell (by simp) _).setCell (by simp) _).setCell (by simp) _).setCell (by simp) _).setCell (by simp) _).setCell (by simp) _).mono (by omega)
    refine⟨.slice ra rn rc,.slice aS nS cS,.slice aP nP cP,us,rfl,kV _ _ (hown.drew.kept TZ),uy.out.imp fun v xs hv=>kO _ _ (hv.drew.kept TZ),kO _ _ (oS.mono hz2),kO _ _ (oP.mono hz2),?_⟩;exact(((((((qh.setCell (QU _) _).setCell (QU _) _).setCell (QK _) _).setCell (QK _) _).setCell (QK _) _).setCell (QK _) _).setCell (QK _) _).setCell (QK _) _
theorem Qa{w:World}{p a:Addr}{u v:Value}(h:w.cell? p=some v)(hne:p.block≠a.block):(w.setCell a u).cell? p=some v:=by
 unfold World.cell? at *;rw[QP _ _ _ _ hne];exact h
def XH(P:Nat->Prop)(w:World)(v:Value)(xs:List Int):Prop:=∃a n c,v=.slice a n c/\xs.length=n/\n<=c/\c<=9223372036854775807/\Ints w a xs/\(a=none->n=0)/\∀ad,a=some ad->0<n->P ad.block
theorem XH.sl{P:Nat->Prop}{w:World}{v:Value}{xs:List Int}(h:XH P w v xs):Sl w v xs:=by
 obtain⟨a,n,c,h1,h2,h3,h4,h5,h6,_⟩:=h;exact⟨a,n,c,h1,h2,h3,h4,h5,h6⟩
theorem XH.imp{P Q:Nat->Prop}{w:World}{v:Value}{xs:List Int}(h:XH P w v xs)(hi:∀k,P k->Q k):XH Q w v xs:=by
 exact QvV
theorem XH.keep{P:Nat->Prop}{w w':World}{v:Value}{xs:List Int}(h:XH P w v xs)(hc:∀p v,P p.block->w.cell? p=some v->w'.cell? p=some v):XH P w' v xs:=by
 exact Qu7
theorem XH.setCell{P:Nat->Prop}{w:World}{v:Value}{xs:List Int}(h:XH P w v xs){a:Addr}(ha:¬P a.block)(u:Value):XH P (w.setCell a u) v xs:=
 h.keep fun p v hp hc=>Qa hc (fun e=>ha (e▸hp))
theorem XH.below{P:Nat->Prop}{w w':World}{v:Value}{xs:List Int}(h:XH P w v xs)(hb:Below w.heap.size w w'):XH P w' v xs:=h.keep fun p v _ hc=>Qk hb p v hc
theorem XH.drew{P:Nat->Prop}{w:World}{v:Value}{xs:List Int}(h:XH P w v xs):XH P w.drew v xs:=h.keep fun _ _ _ h=>h
theorem XH.nil(P:Nat->Prop)(w:World):XH P w (.slice none 0 0) []:=⟨none,0,0,rfl,rfl,QU _,by omega,Ints.nil _ _,fun _=>rfl,fun ad e=>by cases e⟩
theorem Sl.lt{w:World}{v:Value}{xs:List Int}(h:Sl w v xs):XH (fun k=>k<w.heap.size) w v xs:=by
 exact QBx
theorem Own.xB{e:TypeId}{base:Nat}{w:World}{v:Value}{xs:List Int}(h:Own e base w v xs):XH (fun k=>base<=k) w v xs:=by
 obtain⟨a,n,c,h1,h2,h3,h4,h5,h6⟩:=h.sl;exact QvL
theorem XH.get{P:Nat->Prop}{w:World}{a:Option Addr}{n c:Nat}{xs:List Int}(h:XH P w (.slice a n c) xs):xs.length=n/\n<=c/\c<=9223372036854775807/\Ints w a xs/\(a=none->n=0):=h.sl.get
theorem XH.form{P:Nat->Prop}{w:World}{v:Value}{xs:List Int}(h:XH P w v xs):∃a n c,v=.slice a n c:=by
 obtain⟨a,n,c,h1,_⟩:=h;exact⟨a,n,c,h1⟩
def Ag(P:Nat->Prop)(w:World)(v:Value)(vs:List Value):Prop:=∃a n c,v=.slice a n c/\vs.length=n/\n<=c/\c<=9223372036854775807/\Y6 w a vs/\(a=none->n=0)/\∀ad,a=some ad->0<n->P ad.block
theorem Ag.vs{P:Nat->Prop}{w:World}{v:Value}{vs:List Value}(h:Ag P w v vs):Vs w v vs:=by
 obtain⟨a,n,c,h1,h2,h3,h4,h5,h6,_⟩:=h;exact⟨a,n,c,h1,h2,h3,h4,h5,h6⟩
theorem Ag.imp{P Q:Nat->Prop}{w:World}{v:Value}{vs:List Value}(h:Ag P w v vs)(hi:∀k,P k->Q k):Ag Q w v vs:=by
 exact QvV
theorem Ag.keep{P:Nat->Prop}{w w':World}{v:Value}{vs:List Value}(h:Ag P w v vs)(hc:∀p v,P p.block->w.cell? p=some v->w'.cell? p=some v):Ag P w' v vs:=by
 exact Qu7
theorem Ag.nil(P:Nat->Prop)(w:World):Ag P w (.slice none 0 0) []:=⟨none,0,0,rfl,rfl,QU _,by omega,Y6.nil _ _,fun _=>rfl,fun ad e=>by cases e⟩
theorem Vs.lt{w:World}{v:Value}{vs:List Value}(h:Vs w v vs):Ag (fun k=>k<w.heap.size) w v vs:=by
 exact QBx
theorem Zk.vsp{e:TypeId}{base:Nat}{w:World}{v:Value}{vs:List Value}(h:Zk e base w v vs):Ag (fun k=>base<=k) w v vs:=by
 obtain⟨a,n,c,h1,h2,h3,h4,h5,h6⟩:=h.vs;exact QvL
def XE(P:Nat->Prop)(w:World)(vs:List Value)(X:List (List Int)):Prop:=vs.length=X.length/\∀i,i<X.length->XH P w (vx vs i) (rx X i)
theorem XE.lists{P:Nat->Prop}{w:World}{vs:List Value}{X:List (List Int)}(h:XE P w vs X):Lists w vs X:=⟨h.1,fun i hi=>(h.2 i hi).sl⟩
theorem XE.imp{P Q:Nat->Prop}{w w':World}{vs:List Value}{X:List (List Int)}(h:XE P w vs X)(hi:∀v xs,XH P w v xs->XH Q w' v xs):XE Q w' vs X:=⟨h.1,fun i k=>hi _ _ (h.2 i k)⟩
theorem XE.append{P:Nat->Prop}{w:World}{vs us:List Value}{X Y:List (List Int)}(h:XE P w vs X)(g:XE P w us Y):XE P w (vs++us) (X++Y):=by
 refine⟨by simp[h.1,g.1],fun i hi=>?_⟩;by_cases hl:i<X.length
 ·rw[Ar (by rw[h.1];exact hl),BL hl];exact h.2 i hl
 ·obtain⟨j,rfl⟩:∃j,i=X.length+j:=⟨i-X.length,by omega⟩
  rw[jH,<-h.1,yw];exact g.2 j (by simp at hi;omega)
theorem XE.one{P:Nat->Prop}{w:World}{v:Value}{xs:List Int}(h:XH P w v xs):XE P w [v] [xs]:=⟨rfl,fun i hi=>by
 obtain rfl:i=0:=by simp at hi;omega
 exact h⟩
theorem XH.lt{P:Nat->Prop}{w:World}{v:Value}{xs:List Int}(h:XH P w v xs):XH (fun k=>P k/\k<w.heap.size) w v xs:=by
 exact QBz
theorem Ag.lt{P:Nat->Prop}{w:World}{v:Value}{vs:List Value}(h:Ag P w v vs):Ag (fun k=>P k/\k<w.heap.size) w v vs:=by
 exact QBz
theorem XE.lt{P:Nat->Prop}{w:World}{vs:List Value}{X:List (List Int)}(h:XE P w vs X):XE (fun k=>P k/\k<w.heap.size) w vs X:=⟨h.1,fun i hi=>(h.2 i hi).lt⟩
theorem XE.drop{P:Nat->Prop}{w:World}{vs:List Value}{X:List (List Int)}(h:XE P w vs X)(k:Nat):XE P w (vs.drop k) (X.drop k):=by
 refine⟨by simp[h.1],fun i hi=>?_⟩;rw[A7,dK];exact h.2 _ (by simp at hi;omega)
structure yU (base:Nat) (w:World) (lv sv pv:Value) (ls:List (List Int)) (Qm pat:List Int):Prop where
 row:∃vs,Zk 26 base w lv vs/\Jn base w vs ls
 Qm:Own 3 base w sv Qm
 pat:Own 3 base w pv pat
theorem yU.setCell{base:Nat}{w:World}{lv sv pv:Value}{ls:List (List Int)}{Qm pat:List Int}(h:yU base w lv sv pv ls Qm pat){a:Addr}(ha:a.block<base)(u:Value):yU base (w.setCell a u) lv sv pv ls Qm pat:=by
 obtain⟨vs,h1,h2⟩:=h.row;exact⟨⟨vs,h1.setCell ha u,h2.imp fun _ _ k=>k.setCell ha u⟩,h.Qm.setCell ha u,h.pat.setCell ha u⟩
theorem yU.kept{base:Nat}{w w':World}{lv sv pv:Value}{ls:List (List Int)}{Qm pat:List Int}(h:yU base w lv sv pv ls Qm pat)(hb:Below w.heap.size w w'):yU base w' lv sv pv ls Qm pat:=by
 obtain⟨vs,h1,h2⟩:=h.row;exact⟨⟨vs,h1.kept hb,h2.imp fun _ _ k=>k.kept hb⟩,h.Qm.kept hb,h.pat.kept hb⟩
theorem yU.mono{base base':Nat}{w:World}{lv sv pv:Value}{ls:List (List Int)}{Qm pat:List Int}(h:yU base w lv sv pv ls Qm pat)(hb:base'<=base):yU base' w lv sv pv ls Qm pat:=by
 obtain⟨vs,h1,h2⟩:=h.row;exact⟨⟨vs,h1.mono hb,h2.imp fun _ _ k=>k.mono hb⟩,h.Qm.mono hb,h.pat.mono hb⟩
theorem yU.form{base:Nat}{w:World}{lv sv pv:Value}{ls:List (List Int)}{Qm pat:List Int}(h:yU base w lv sv pv ls Qm pat):(∃a n c,lv=.slice a n c)/\(∃a n c,sv=.slice a n c)/\(∃a n c,pv=.slice a n c):=by
 obtain⟨vs,h1,h2⟩:=h.row;exact⟨h1.form,h.Qm.form,h.pat.form⟩
structure UO (P:Nat->Prop) (w:World) (lv:Value) (most QM:Int) (sv pv:Value) (older:Bool) (h:Hi):Prop where
 ls:∃vs,Ag P w lv vs/\XE P w vs h.ls
 most:most=h.most
 QM:QM=h.QM
 Qm:XH P w sv h.Qm
 pat:XH P w pv h.pat
 older:older=h.older
theorem UO.hir{P:Nat->Prop}{w:World}{lv:Value}{most QM:Int}{sv pv:Value}{older:Bool}{h:Hi}(r:UO P w lv most QM sv pv older h):Un w lv most QM sv pv older h:=by
 obtain⟨vs,h1,h2⟩:=r.ls;exact⟨⟨vs,h1.vs,h2.lists⟩,r.most,r.QM,r.Qm.sl,r.pat.sl,r.older⟩
theorem UO.keep{P:Nat->Prop}{w w':World}{lv:Value}{most QM:Int}{sv pv:Value}{older:Bool}{h:Hi}(r:UO P w lv most QM sv pv older h)(hc:∀p v,P p.block->w.cell? p=some v->w'.cell? p=some v):UO P w' lv most QM sv pv older h:=by
 obtain⟨vs,h1,h2⟩:=r.ls;exact⟨⟨vs,h1.keep hc,h2.imp fun _ _ k=>k.keep hc⟩,r.most,r.QM,r.Qm.keep hc,r.pat.keep hc,r.older⟩
theorem UO.imp{P Q:Nat->Prop}{w:World}{lv:Value}{most QM:Int}{sv pv:Value}{older:Bool}{h:Hi}(r:UO P w lv most QM sv pv older h)(hi:∀k,P k->Q k):UO Q w lv most QM sv pv older h:=by
 obtain⟨vs,h1,h2⟩:=r.ls;exact⟨⟨vs,h1.imp hi,h2.imp fun _ _ k=>k.imp hi⟩,r.most,r.QM,r.Qm.imp hi,r.pat.imp hi,r.older⟩
theorem UO.setCell{P:Nat->Prop}{w:World}{lv:Value}{most QM:Int}{sv pv:Value}{older:Bool}{h:Hi}(r:UO P w lv most QM sv pv older h){a:Addr}(ha:¬P a.block)(u:Value):UO P (w.setCell a u) lv most QM sv pv older h:=
 r.keep fun p v hp hc=>Qa hc (fun e=>ha (e▸hp))
theorem UO.below{P:Nat->Prop}{w w':World}{lv:Value}{most QM:Int}{sv pv:Value}{older:Bool}{h:Hi}(r:UO P w lv most QM sv pv older h)(hb:Below w.heap.size w w'):UO P w' lv most QM sv pv older h:=r.keep fun p v _ hc=>Qk hb p v hc
theorem UO.lt{P:Nat->Prop}{w:World}{lv:Value}{most QM:Int}{sv pv:Value}{older:Bool}{h:Hi}(r:UO P w lv most QM sv pv older h):UO (fun k=>P k/\k<w.heap.size) w lv most QM sv pv older h:=by
 obtain⟨vs,h1,h2⟩:=r.ls;exact⟨⟨vs,h1.lt,h2.lt⟩,r.most,r.QM,r.Qm.lt,r.pat.lt,r.older⟩
theorem yU.hip{base:Nat}{w:World}{lv sv pv:Value}{ls:List (List Int)}{Qm pat:List Int}(h:yU base w lv sv pv ls Qm pat)(most QM:Int)(older:Bool):UO (fun k=>base<=k) w lv most QM sv pv older ⟨ls,most,QM,Qm,pat,older⟩:=by
 obtain⟨vs,h1,h2⟩:=h.row;exact⟨⟨vs,h1.vsp,⟨h2.1,fun i hi=>(h2.2 i hi).xB⟩⟩,rfl,rfl,h.Qm.xB,h.pat.xB,rfl⟩
def YX(P:Nat->Prop)(h:Hi)(line:List Int)(E:Int)(w:World)(e:Ending)(w':World):Prop:=
 ∃lv sv pv nv,e=.returned (.tuple #[.agg (Zc lv h.most h.QM sv pv h.older),nv,.int .i64 E])/\UO P w' lv h.most h.QM sv pv h.older h/\XH P w' nv line/\Below w.heap.size w w'
def hi0:Hi:=⟨[],0,0,[],[],false⟩
theorem Wn(P:Nat->Prop)(w:World):UO P w (.slice none 0 0) 0 0 (.slice none 0 0) (.slice none 0 0) false hi0:=⟨⟨[],Ag.nil _ _,⟨rfl,fun i hi=>by simp[hi0]at hi⟩⟩,rfl,rfl,XH.nil _ _,XH.nil _ _,rfl⟩
structure VE (h:Hi):Prop where
 Ec:1<=h.most
 JH:h.most<=50
 len:(h.ls.length:Int)<=h.most
 KR:0<=h.QM
 Ky:h.QM<=h.ls.length
 lines:∀i,i<h.ls.length->(rx h.ls i).length<=200
 Qm:h.Qm.length<=200
 pat:h.pat.length<=200
theorem U8{h:Hi}(hE:qK h=0):VE h:=by
 unfold qK at hE;split at hE
 ·simp at hE
 ·split at hE
  ·simp at hE
  ·rename_i h1 h2
   simp only[Bool.not_eq_true,Bool.or_eq_false_iff,JU,Qz,List.any_eq_false,Zq]at h2;refine⟨by omega,by omega,by omega,by omega,by omega,fun i hi=>?_,by omega,by omega⟩;have:=h2.1.1 (rx h.ls i) (Gn hi);omega
def ZC(h:Hi)(nn:Nat)(n:Int):Int:=if qK h≠0 then qK h else if 200<nn then 2 else if n<0\/999<n then 1 else 0
theorem Z0(lv:Value)(most QM:Int)(sv pv:Value)(older:Bool)(h:Hi)(a:Option Addr)(nn c:Nat)(n:Int)(w:World)(r:Un w lv most QM sv pv older h):
  Calls Tryz.prog 191 #[.agg (Zc lv most QM sv pv older),.slice a nn c,.int .i64 n] w fun e w'=>e=.returned (.int .i64 (ZC h nn n))/\Below w.heap.size w w':=by
 obtain⟨E,hE⟩:∃E,qK h=E:=⟨_,rfl⟩;have hR:ZC h nn n=if E≠0 then E else if 200<nn then 2 else if n<0\/999<n then 1 else 0:=by rw[ZC,hE]
 have HC:=QQ (Kh lv most QM sv pv older h);have HE:=QQ hE;have hrr:=r;obtain⟨⟨vs,hvs,hls⟩,-,-,ZI,ZL,-⟩:=r;obtain⟨la,ln,lc,rfl,-⟩:=hvs;obtain⟨sa,sn,sc,rfl,-⟩:=ZI;obtain⟨pa,pn,pc,rfl,-⟩:=ZL;have HRR:=QQ hrr;clear hls hE hrr;unfold Zc at *;have hB:=QD.new w #[.slice la ln lc,.int .i64 most,.int .i64 QM,.slice sa sn sc,.slice pa pn pc,.bool older] 65;obtain⟨c0,c1,c2,c3,c4,c5⟩:=hB.six;have hacc:=QC w (.cells #[.slice la ln lc,.int .i64 most,.int .i64 QM,.slice sa sn sc,.slice pa pn pc,.bool older] 65);have QQx:=QQ (HRR.out.below hacc);by_cases h0:E=0
 ·rw[if_neg (by simpa using h0)]at hR
  subst h0;rcases(show 200<nn\/(nn<=200/\n<0)\/(nn<=200/\0<=n/\999<n)\/(nn<=200/\0<=n/\n<=999) by omega)with h1|⟨h1,h2⟩|⟨h1,h2,h3⟩|⟨h1,h2,h3⟩
  ·rw[if_pos h1]at hR
   have HR:=QQ hR;clear hR;exact QuL
  all_goals
   rw[if_neg (by omega)]at hR;first|rw[if_pos (by omega)]at hR|rw[if_neg (by omega)]at hR
   have HR:=QQ hR;clear hR;exact QuL
 ·rw[if_pos h0]at hR
  have HR:=QQ hR;have h0':(E !=0)=true:=by simpa using h0
  clear hR h0;exact QuL
theorem Mj{w:World}{B:Nat}{u0 u1 u2 u3 u4 u5:Value}{p:Addr}{v:Value}(hc:w.cell? p=some v)(hne:p.block≠B):
  ((((((w.setCell ⟨B,0,none⟩ u0).setCell ⟨B,1,none⟩ u1).setCell ⟨B,2,none⟩ u2).setCell ⟨B,3,none⟩ u3).setCell ⟨B,4,none⟩ u4).setCell ⟨B,5,none⟩ u5).cell? p=some v:=
 Qa (Qa (Qa (Qa (Qa (Qa hc hne) hne) hne) hne) hne) hne
theorem YB{N B:Nat}{w0 w:World}{u0 u1 u2 u3 u4 u5:Value}(h:Below N w0 w)(hB:N<=B):
  Below N w0 ((((((w.setCell ⟨B,0,none⟩ u0).setCell ⟨B,1,none⟩ u1).setCell ⟨B,2,none⟩ u2).setCell ⟨B,3,none⟩ u3).setCell ⟨B,4,none⟩ u4).setCell ⟨B,5,none⟩ u5):=
 (((((h.setCell (p:=⟨B,0,none⟩) hB u0).setCell (p:=⟨B,1,none⟩) hB u1).setCell (p:=⟨B,2,none⟩) hB u2).setCell (p:=⟨B,3,none⟩) hB u3).setCell (p:=⟨B,4,none⟩) hB u4).setCell (p:=⟨B,5,none⟩) hB u5
theorem XH.six{P:Nat->Prop}{w:World}{B:Nat}{u0 u1 u2 u3 u4 u5:Value}{v:Value}{xs:List Int}(h:XH P w v xs)(hB:¬P B):
  XH P ((((((w.setCell ⟨B,0,none⟩ u0).setCell ⟨B,1,none⟩ u1).setCell ⟨B,2,none⟩ u2).setCell ⟨B,3,none⟩ u3).setCell ⟨B,4,none⟩ u4).setCell ⟨B,5,none⟩ u5) v xs:=
 h.keep fun p v hp hc=>Mj hc (fun e=>hB (e▸hp))
theorem UO.six{P:Nat->Prop}{w:World}{B:Nat}{u0 u1 u2 u3 u4 u5:Value}{lv:Value}{most QM:Int}{sv pv:Value}{older:Bool}{h:Hi}(r:UO P w lv most QM sv pv older h)(hB:¬P B):
  UO P ((((((w.setCell ⟨B,0,none⟩ u0).setCell ⟨B,1,none⟩ u1).setCell ⟨B,2,none⟩ u2).setCell ⟨B,3,none⟩ u3).setCell ⟨B,4,none⟩ u4).setCell ⟨B,5,none⟩ u5) lv most QM sv pv older h:=
 r.keep fun p v hp hc=>Mj hc (fun e=>hB (e▸hp))
theorem QD.six'{w:World}{B:Nat}{a0 a1 a2 a3 a4 a5:Value}{e:TypeId}(h:QD w B #[a0,a1,a2,a3,a4,a5] e)(u0 u1 u2 u3 u4 u5:Value):
  QD ((((((w.setCell ⟨B,0,none⟩ u0).setCell ⟨B,1,none⟩ u1).setCell ⟨B,2,none⟩ u2).setCell ⟨B,3,none⟩ u3).setCell ⟨B,4,none⟩ u4).setCell ⟨B,5,none⟩ u5) B #[u0,u1,u2,u3,u4,u5] e:=by
 have hG:=((((((h.set 0 u0).set 1 u1).set 2 u2).set 3 u3).set 4 u4).set 5 u5);simpa only[QZ,QX,QY]using hG
end Go.Proofs.YtmdcencmiopmmaaGreat

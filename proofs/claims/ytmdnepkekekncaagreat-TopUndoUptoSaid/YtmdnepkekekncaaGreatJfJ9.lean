/- joined, no condition of its own. -/
import Derived.Test.YtmdnepkekekncaaGreatJfJ8
set_option linter.unusedVariables false
set_option linter.unusedSimpArgs false
set_option maxRecDepth 100000
set_option maxHeartbeats 12000000
namespace Go.Proofs.YtmdnepkekekncaaGreat
open Go.RowKit
def xW(v:Int):Option (Int×Int):=if v=120 then some (100,108)else if v=88 then some (100,104)else if v=115 then some (99,108)else if v=83 then some (99,99)else if v=67 then some (99,36)else if v=68 then some (100,36)else if v=89 then some (121,121)else none
def Sd(c:C5):C5:=match xW c.d with|some (p,q)=>⟨c.a,c.b,p,q,c.e⟩|none=>c
def Ck(c:C5):C5:=if c.c≠0 then c else Sd c
theorem Er(w:World)(u v:Array Value)(e f:TypeId):Za ((w.alloc (.cells u e)).alloc (.cells v f)) w.heap.size u e/\Za ((w.alloc (.cells u e)).alloc (.cells v f)) (w.heap.size+1) v f/\Below w.heap.size w ((w.alloc (.cells u e)).alloc (.cells v f)):=by
 exact QI1
def qB(c:C5)(ok:Bool)(w:World)(e:Ending)(w':World):Prop:=e=.returned (.tuple #[c.v,.bool ok])/\Below w.heap.size w w'
theorem Sb(a b c e:Int)(w:World):Calls Tryz.prog 152 #[.agg #[.int .i64 a,.int .i64 b,.int .i64 c,.int .i64 120,.int .i64 e]] w (qB ⟨a,b,100,108,e⟩ true w):=by
 obtain⟨hA,hR,hb0⟩:=Er w #[.int .i64 a,.int .i64 b,.int .i64 c,.int .i64 120,.int .i64 e] #[.int .i64 0,.int .i64 0,.int .i64 0,.int .i64 0,.int .i64 0] 39 39;go_enter Tryz.func152,Tryz.ntmps152
 go_upto_region 1 with fail
 generalize((w.alloc (.cells #[.int .i64 a,.int .i64 b,.int .i64 c,.int .i64 120,.int .i64 e] 39)).alloc (.cells #[.int .i64 0,.int .i64 0,.int .i64 0,.int .i64 0,.int .i64 0] 39))=w1 at *;obtain⟨c0,c1,c2,c3,c4⟩:=hA.five;obtain⟨f0,f1,f2,f3,f4⟩:=hA.Z7;obtain⟨d0,d1,d2,d3,d4⟩:=hR.five;obtain⟨g0,g1,g2,g3,g4⟩:=hR.Z7;have hG:=((hR.other (a:=⟨w.heap.size,2,none⟩) (show w.heap.size+1≠w.heap.size from QQ) (.int .i64 100)).other (a:=⟨w.heap.size,3,none⟩) (show w.heap.size+1≠w.heap.size from QQ) (.int .i64 108)).xX (.int .i64 a) (.int .i64 b) (.int .i64 100) (.int .i64 108) (.int .i64 e);have BR:=Yg (B:=w.heap.size+1) ((hb0.setCell (p:=⟨w.heap.size,2,none⟩) (ZB _) (.int .i64 100)).setCell (p:=⟨w.heap.size,3,none⟩) (ZB _) (.int .i64 108)) QQ (x0:=.int .i64 a) (x1:=.int .i64 b) (x2:=.int .i64 100) (x3:=.int .i64 108) (x4:=.int .i64 e);obtain⟨y0,y1,y2,y3,y4⟩:=hG.five;have HB:=Zy BR;clear hG BR;go_wp2;refine ZC (v:=.tuple #[.agg #[.int .i64 a,.int .i64 b,.int .i64 100,.int .i64 108,.int .i64 e],.bool true]) QL rfl ?_;exact⟨rfl,HB.out⟩
theorem eX(a b c e:Int)(w:World):Calls Tryz.prog 152 #[.agg #[.int .i64 a,.int .i64 b,.int .i64 c,.int .i64 88,.int .i64 e]] w (qB ⟨a,b,100,104,e⟩ true w):=by
 obtain⟨hA,hR,hb0⟩:=Er w #[.int .i64 a,.int .i64 b,.int .i64 c,.int .i64 88,.int .i64 e] #[.int .i64 0,.int .i64 0,.int .i64 0,.int .i64 0,.int .i64 0] 39 39;go_enter Tryz.func152,Tryz.ntmps152
 go_upto_region 1 with fail
 generalize((w.alloc (.cells #[.int .i64 a,.int .i64 b,.int .i64 c,.int .i64 88,.int .i64 e] 39)).alloc (.cells #[.int .i64 0,.int .i64 0,.int .i64 0,.int .i64 0,.int .i64 0] 39))=w1 at *;obtain⟨c0,c1,c2,c3,c4⟩:=hA.five;obtain⟨f0,f1,f2,f3,f4⟩:=hA.Z7;obtain⟨d0,d1,d2,d3,d4⟩:=hR.five;obtain⟨g0,g1,g2,g3,g4⟩:=hR.Z7;have hG:=((hR.other (a:=⟨w.heap.size,2,none⟩) (show w.heap.size+1≠w.heap.size from QQ) (.int .i64 100)).other (a:=⟨w.heap.size,3,none⟩) (show w.heap.size+1≠w.heap.size from QQ) (.int .i64 104)).xX (.int .i64 a) (.int .i64 b) (.int .i64 100) (.int .i64 104) (.int .i64 e);have BR:=Yg (B:=w.heap.size+1) ((hb0.setCell (p:=⟨w.heap.size,2,none⟩) (ZB _) (.int .i64 100)).setCell (p:=⟨w.heap.size,3,none⟩) (ZB _) (.int .i64 104)) QQ (x0:=.int .i64 a) (x1:=.int .i64 b) (x2:=.int .i64 100) (x3:=.int .i64 104) (x4:=.int .i64 e);obtain⟨y0,y1,y2,y3,y4⟩:=hG.five;have HB:=Zy BR;clear hG BR;go_wp2;refine ZC (v:=.tuple #[.agg #[.int .i64 a,.int .i64 b,.int .i64 100,.int .i64 104,.int .i64 e],.bool true]) QL rfl ?_;exact⟨rfl,HB.out⟩
theorem Sc(a b c e:Int)(w:World):Calls Tryz.prog 152 #[.agg #[.int .i64 a,.int .i64 b,.int .i64 c,.int .i64 115,.int .i64 e]] w (qB ⟨a,b,99,108,e⟩ true w):=by
 obtain⟨hA,hR,hb0⟩:=Er w #[.int .i64 a,.int .i64 b,.int .i64 c,.int .i64 115,.int .i64 e] #[.int .i64 0,.int .i64 0,.int .i64 0,.int .i64 0,.int .i64 0] 39 39;go_enter Tryz.func152,Tryz.ntmps152
 go_upto_region 1 with fail
 generalize((w.alloc (.cells #[.int .i64 a,.int .i64 b,.int .i64 c,.int .i64 115,.int .i64 e] 39)).alloc (.cells #[.int .i64 0,.int .i64 0,.int .i64 0,.int .i64 0,.int .i64 0] 39))=w1 at *;obtain⟨c0,c1,c2,c3,c4⟩:=hA.five;obtain⟨f0,f1,f2,f3,f4⟩:=hA.Z7;obtain⟨d0,d1,d2,d3,d4⟩:=hR.five;obtain⟨g0,g1,g2,g3,g4⟩:=hR.Z7;have hG:=((hR.other (a:=⟨w.heap.size,2,none⟩) (show w.heap.size+1≠w.heap.size from QQ) (.int .i64 99)).other (a:=⟨w.heap.size,3,none⟩) (show w.heap.size+1≠w.heap.size from QQ) (.int .i64 108)).xX (.int .i64 a) (.int .i64 b) (.int .i64 99) (.int .i64 108) (.int .i64 e);have BR:=Yg (B:=w.heap.size+1) ((hb0.setCell (p:=⟨w.heap.size,2,none⟩) (ZB _) (.int .i64 99)).setCell (p:=⟨w.heap.size,3,none⟩) (ZB _) (.int .i64 108)) QQ (x0:=.int .i64 a) (x1:=.int .i64 b) (x2:=.int .i64 99) (x3:=.int .i64 108) (x4:=.int .i64 e);obtain⟨y0,y1,y2,y3,y4⟩:=hG.five;have HB:=Zy BR;clear hG BR;go_wp2;refine ZC (v:=.tuple #[.agg #[.int .i64 a,.int .i64 b,.int .i64 99,.int .i64 108,.int .i64 e],.bool true]) QL rfl ?_;exact⟨rfl,HB.out⟩
theorem eY(a b c e:Int)(w:World):Calls Tryz.prog 152 #[.agg #[.int .i64 a,.int .i64 b,.int .i64 c,.int .i64 83,.int .i64 e]] w (qB ⟨a,b,99,99,e⟩ true w):=by
 obtain⟨hA,hR,hb0⟩:=Er w #[.int .i64 a,.int .i64 b,.int .i64 c,.int .i64 83,.int .i64 e] #[.int .i64 0,.int .i64 0,.int .i64 0,.int .i64 0,.int .i64 0] 39 39;go_enter Tryz.func152,Tryz.ntmps152
 go_upto_region 1 with fail
 generalize((w.alloc (.cells #[.int .i64 a,.int .i64 b,.int .i64 c,.int .i64 83,.int .i64 e] 39)).alloc (.cells #[.int .i64 0,.int .i64 0,.int .i64 0,.int .i64 0,.int .i64 0] 39))=w1 at *;obtain⟨c0,c1,c2,c3,c4⟩:=hA.five;obtain⟨f0,f1,f2,f3,f4⟩:=hA.Z7;obtain⟨d0,d1,d2,d3,d4⟩:=hR.five;obtain⟨g0,g1,g2,g3,g4⟩:=hR.Z7;have hG:=((hR.other (a:=⟨w.heap.size,2,none⟩) (show w.heap.size+1≠w.heap.size from QQ) (.int .i64 99)).other (a:=⟨w.heap.size,3,none⟩) (show w.heap.size+1≠w.heap.size from QQ) (.int .i64 99)).xX (.int .i64 a) (.int .i64 b) (.int .i64 99) (.int .i64 99) (.int .i64 e);have BR:=Yg (B:=w.heap.size+1) ((hb0.setCell (p:=⟨w.heap.size,2,none⟩) (ZB _) (.int .i64 99)).setCell (p:=⟨w.heap.size,3,none⟩) (ZB _) (.int .i64 99)) QQ (x0:=.int .i64 a) (x1:=.int .i64 b) (x2:=.int .i64 99) (x3:=.int .i64 99) (x4:=.int .i64 e);obtain⟨y0,y1,y2,y3,y4⟩:=hG.five;have HB:=Zy BR;clear hG BR;go_wp2;refine ZC (v:=.tuple #[.agg #[.int .i64 a,.int .i64 b,.int .i64 99,.int .i64 99,.int .i64 e],.bool true]) QL rfl ?_;exact⟨rfl,HB.out⟩
theorem ek(a b c e:Int)(w:World):Calls Tryz.prog 152 #[.agg #[.int .i64 a,.int .i64 b,.int .i64 c,.int .i64 67,.int .i64 e]] w (qB ⟨a,b,99,36,e⟩ true w):=by
 obtain⟨hA,hR,hb0⟩:=Er w #[.int .i64 a,.int .i64 b,.int .i64 c,.int .i64 67,.int .i64 e] #[.int .i64 0,.int .i64 0,.int .i64 0,.int .i64 0,.int .i64 0] 39 39;go_enter Tryz.func152,Tryz.ntmps152
 go_upto_region 1 with fail
 generalize((w.alloc (.cells #[.int .i64 a,.int .i64 b,.int .i64 c,.int .i64 67,.int .i64 e] 39)).alloc (.cells #[.int .i64 0,.int .i64 0,.int .i64 0,.int .i64 0,.int .i64 0] 39))=w1 at *;obtain⟨c0,c1,c2,c3,c4⟩:=hA.five;obtain⟨f0,f1,f2,f3,f4⟩:=hA.Z7;obtain⟨d0,d1,d2,d3,d4⟩:=hR.five;obtain⟨g0,g1,g2,g3,g4⟩:=hR.Z7;have hG:=((hR.other (a:=⟨w.heap.size,2,none⟩) (show w.heap.size+1≠w.heap.size from QQ) (.int .i64 99)).other (a:=⟨w.heap.size,3,none⟩) (show w.heap.size+1≠w.heap.size from QQ) (.int .i64 36)).xX (.int .i64 a) (.int .i64 b) (.int .i64 99) (.int .i64 36) (.int .i64 e);have BR:=Yg (B:=w.heap.size+1) ((hb0.setCell (p:=⟨w.heap.size,2,none⟩) (ZB _) (.int .i64 99)).setCell (p:=⟨w.heap.size,3,none⟩) (ZB _) (.int .i64 36)) QQ (x0:=.int .i64 a) (x1:=.int .i64 b) (x2:=.int .i64 99) (x3:=.int .i64 36) (x4:=.int .i64 e);obtain⟨y0,y1,y2,y3,y4⟩:=hG.five;have HB:=Zy BR;clear hG BR;go_wp2;refine ZC (v:=.tuple #[.agg #[.int .i64 a,.int .i64 b,.int .i64 99,.int .i64 36,.int .i64 e],.bool true]) QL rfl ?_;exact⟨rfl,HB.out⟩
theorem eU(a b c e:Int)(w:World):Calls Tryz.prog 152 #[.agg #[.int .i64 a,.int .i64 b,.int .i64 c,.int .i64 68,.int .i64 e]] w (qB ⟨a,b,100,36,e⟩ true w):=by
 obtain⟨hA,hR,hb0⟩:=Er w #[.int .i64 a,.int .i64 b,.int .i64 c,.int .i64 68,.int .i64 e] #[.int .i64 0,.int .i64 0,.int .i64 0,.int .i64 0,.int .i64 0] 39 39;go_enter Tryz.func152,Tryz.ntmps152
 go_upto_region 1 with fail
 generalize((w.alloc (.cells #[.int .i64 a,.int .i64 b,.int .i64 c,.int .i64 68,.int .i64 e] 39)).alloc (.cells #[.int .i64 0,.int .i64 0,.int .i64 0,.int .i64 0,.int .i64 0] 39))=w1 at *;obtain⟨c0,c1,c2,c3,c4⟩:=hA.five;obtain⟨f0,f1,f2,f3,f4⟩:=hA.Z7;obtain⟨d0,d1,d2,d3,d4⟩:=hR.five;obtain⟨g0,g1,g2,g3,g4⟩:=hR.Z7;have hG:=((hR.other (a:=⟨w.heap.size,2,none⟩) (show w.heap.size+1≠w.heap.size from QQ) (.int .i64 100)).other (a:=⟨w.heap.size,3,none⟩) (show w.heap.size+1≠w.heap.size from QQ) (.int .i64 36)).xX (.int .i64 a) (.int .i64 b) (.int .i64 100) (.int .i64 36) (.int .i64 e);have BR:=Yg (B:=w.heap.size+1) ((hb0.setCell (p:=⟨w.heap.size,2,none⟩) (ZB _) (.int .i64 100)).setCell (p:=⟨w.heap.size,3,none⟩) (ZB _) (.int .i64 36)) QQ (x0:=.int .i64 a) (x1:=.int .i64 b) (x2:=.int .i64 100) (x3:=.int .i64 36) (x4:=.int .i64 e);obtain⟨y0,y1,y2,y3,y4⟩:=hG.five;have HB:=Zy BR;clear hG BR;go_wp2;refine ZC (v:=.tuple #[.agg #[.int .i64 a,.int .i64 b,.int .i64 100,.int .i64 36,.int .i64 e],.bool true]) QL rfl ?_;exact⟨rfl,HB.out⟩
theorem eZ(a b c e:Int)(w:World):Calls Tryz.prog 152 #[.agg #[.int .i64 a,.int .i64 b,.int .i64 c,.int .i64 89,.int .i64 e]] w (qB ⟨a,b,121,121,e⟩ true w):=by
 obtain⟨hA,hR,hb0⟩:=Er w #[.int .i64 a,.int .i64 b,.int .i64 c,.int .i64 89,.int .i64 e] #[.int .i64 0,.int .i64 0,.int .i64 0,.int .i64 0,.int .i64 0] 39 39;go_enter Tryz.func152,Tryz.ntmps152
 go_upto_region 1 with fail
 generalize((w.alloc (.cells #[.int .i64 a,.int .i64 b,.int .i64 c,.int .i64 89,.int .i64 e] 39)).alloc (.cells #[.int .i64 0,.int .i64 0,.int .i64 0,.int .i64 0,.int .i64 0] 39))=w1 at *;obtain⟨c0,c1,c2,c3,c4⟩:=hA.five;obtain⟨f0,f1,f2,f3,f4⟩:=hA.Z7;obtain⟨d0,d1,d2,d3,d4⟩:=hR.five;obtain⟨g0,g1,g2,g3,g4⟩:=hR.Z7;have hG:=((hR.other (a:=⟨w.heap.size,2,none⟩) (show w.heap.size+1≠w.heap.size from QQ) (.int .i64 121)).other (a:=⟨w.heap.size,3,none⟩) (show w.heap.size+1≠w.heap.size from QQ) (.int .i64 121)).xX (.int .i64 a) (.int .i64 b) (.int .i64 121) (.int .i64 121) (.int .i64 e);have BR:=Yg (B:=w.heap.size+1) ((hb0.setCell (p:=⟨w.heap.size,2,none⟩) (ZB _) (.int .i64 121)).setCell (p:=⟨w.heap.size,3,none⟩) (ZB _) (.int .i64 121)) QQ (x0:=.int .i64 a) (x1:=.int .i64 b) (x2:=.int .i64 121) (x3:=.int .i64 121) (x4:=.int .i64 e);obtain⟨y0,y1,y2,y3,y4⟩:=hG.five;have HB:=Zy BR;clear hG BR;go_wp2;refine ZC (v:=.tuple #[.agg #[.int .i64 a,.int .i64 b,.int .i64 121,.int .i64 121,.int .i64 e],.bool true]) QL rfl ?_;exact⟨rfl,HB.out⟩
theorem eQ(a b c d e:Int)(w:World)(h:xW d=none):Calls Tryz.prog 152 #[.agg #[.int .i64 a,.int .i64 b,.int .i64 c,.int .i64 d,.int .i64 e]] w (qB ⟨a,b,c,d,e⟩ false w):=by
 have n120:(d==120)=false:=ZY;have n88:(d==88)=false:=ZY;have n115:(d==115)=false:=ZY;have n83:(d==83)=false:=ZY;have n67:(d==67)=false:=ZY;have n68:(d==68)=false:=ZY;have n89:(d==89)=false:=ZY;obtain⟨hA,hR,hb0⟩:=Er w #[.int .i64 a,.int .i64 b,.int .i64 c,.int .i64 d,.int .i64 e] #[.int .i64 0,.int .i64 0,.int .i64 0,.int .i64 0,.int .i64 0] 39 39;go_enter Tryz.func152,Tryz.ntmps152
 go_upto_region 1 with fail
 generalize((w.alloc (.cells #[.int .i64 a,.int .i64 b,.int .i64 c,.int .i64 d,.int .i64 e] 39)).alloc (.cells #[.int .i64 0,.int .i64 0,.int .i64 0,.int .i64 0,.int .i64 0] 39))=w1 at *;obtain⟨c0,c1,c2,c3,c4⟩:=hA.five;obtain⟨f0,f1,f2,f3,f4⟩:=hA.Z7;obtain⟨d0,d1,d2,d3,d4⟩:=hR.five;obtain⟨g0,g1,g2,g3,g4⟩:=hR.Z7;have hG:=hR.xX (.int .i64 a) (.int .i64 b) (.int .i64 c) (.int .i64 d) (.int .i64 e);have BR:=Yg (B:=w.heap.size+1) hb0 QQ (x0:=.int .i64 a) (x1:=.int .i64 b) (x2:=.int .i64 c) (x3:=.int .i64 d) (x4:=.int .i64 e);obtain⟨y0,y1,y2,y3,y4⟩:=hG.five;have HB:=Zy BR;clear hG BR;go_wp2;refine ZC (v:=.tuple #[.agg #[.int .i64 a,.int .i64 b,.int .i64 c,.int .i64 d,.int .i64 e],.bool false]) QL rfl ?_;exact⟨rfl,HB.out⟩
theorem UD(c:C5)(w:World):Calls Tryz.prog 152 #[c.v] w (qB (Sd c) (xW c.d).isSome w):=by
 obtain⟨a,b,o,d,e⟩:=c;by_cases aJ:d=120
 ·subst aJ;exact Sb a b o e w
 by_cases h88:d=88
 ·subst h88;exact eX a b o e w
 by_cases QV9:d=115
 ·subst QV9;exact Sc a b o e w
 by_cases h83:d=83
 ·subst h83;exact eY a b o e w
 by_cases h67:d=67
 ·subst h67;exact ek a b o e w
 by_cases h68:d=68
 ·subst h68;exact eU a b o e w
 by_cases h89:d=89
 ·subst h89;exact eZ a b o e w
 have hn:xW d=none:=by unfold xW;rw[if_neg aJ,if_neg h88,if_neg QV9,if_neg h83,if_neg h67,if_neg h68,if_neg h89]
 have h1:Sd ⟨a,b,o,d,e⟩=⟨a,b,o,d,e⟩:=by unfold Sd;simp only[hn]
 have h2:(xW d).isSome=false:=by rw[hn];rfl
 rw[h1];simp only[h2];exact eQ a b o d e w hn
def az(k:Int):Int:=if k=102 then 70 else if k=70 then 102 else if k=116 then 84 else if k=84 then 116 else k
def jh(fk d:Int):Int:=if d≠59/\d≠44 then d else if fk=0 then d else if d=44 then az fk else fk
def ji(fk fa d e:Int):Int:=if d≠59/\d≠44 then e else if fk=0 then e else fa
def LC(fk d:Int):Int:=if d≠59/\d≠44 then 0 else if fk=0 then 5 else 0
theorem QX3(w:World)(u v x:Array Value)(e f g:TypeId):Za (((w.alloc (.cells u e)).alloc (.cells v f)).alloc (.cells x g)) w.heap.size u e/\Za (((w.alloc (.cells u e)).alloc (.cells v f)).alloc (.cells x g)) (w.heap.size+1) v f/\Za (((w.alloc (.cells u e)).alloc (.cells v f)).alloc (.cells x g)) (w.heap.size+2) x g/\Below w.heap.size w (((w.alloc (.cells u e)).alloc (.cells v f)).alloc (.cells x g))/\(((w.alloc (.cells u e)).alloc (.cells v f)).alloc (.cells x g)).heap.size=w.heap.size+3:=by
 obtain⟨h1,h2,h3⟩:=Er w u v e f;have h:=Za.new ((w.alloc (.cells u e)).alloc (.cells v f)) x g;rw[Zu,Zu]at h;exact⟨h1.alloc _,h2.alloc _,h,h3.alloc h3.size _,by rw[Zu,Zu,Zu]⟩
structure In where
 w0:World
 a:Option Addr
 n:Nat
 c:Nat
 t:List Int
 k:Nat
 vs:List Value
 X:List (List Int)
structure Je (I:In):Prop where
 len:I.t.length=I.n
 top:I.n<=200
 cap:I.n<=I.c
 cap2:I.c<=9223372036854775807
 ints:Ints I.w0 I.a I.t
 none:I.a=none->I.n=0
 bH:EN I.w0 I.vs I.X
 small:∀i,i<27->(rx I.X i).length<=1048576
 k1:I.k<I.n\/I.k=0
structure St where
 cm:C5
 O:List Int
 p:Int
 Y:List (List Int)
 fk:Int
 fa:Int
 md:Int
 es:List Sp
structure DI (P:Nat) (w:World) (us:List Value) (I:In) (s:St):Prop where
 lu:us.length=67
 b:XG w P us 227
 Xw:Below I.w0.heap.size I.w0 w
 ge:I.w0.heap.size<=P
 u0:vx us 0=.slice I.a I.n I.c
 u1:vx us 1=.int .i64 (I.k:Int)
 ur:∀i,i<27->vx us (2+i)=vx I.vs i
 k0:vx us 29=.int .i64 s.cm.a
 k1:vx us 30=.int .i64 s.cm.b
 k2:vx us 31=.int .i64 s.cm.c
 k3:vx us 32=.int .i64 s.cm.d
 k4:vx us 33=.int .i64 s.cm.e
 o:Own 3 (P+1) w (vx us 34) s.O
 p:vx us 35=.int .i64 s.p
 ly:s.Y.length=27
 y:∀i,i<27->Own 3 (P+1) w (vx us (36+i)) (rx s.Y i)
 f1:vx us 63=.int .i64 s.fk
 f2:vx us 64=.int .i64 s.fa
 m:vx us 65=.int .i64 s.md
 e:∃ws,Us (P+1) w (vx us 66) ws s.es
structure Yk (P:Nat) (w w':World):Prop where
 blk:∀{B:Nat} {cs:Array Value} {e:TypeId},B≠P->Za w B cs e->Za w' B cs e
 size:w.heap.size<=w'.heap.size
 cell:∀{b i:Nat} {v:Value},b≠P->w.cell? ⟨b,i,none⟩=some v->w'.cell? ⟨b,i,none⟩=some v
theorem Yk.refl(P:Nat)(w:World):Yk P w w:=⟨fun _ h=>h,ZB _,fun _ h=>h⟩
theorem Yk.trans{P:Nat}{a b c:World}(h:Yk P a b)(h':Yk P b c):Yk P a c:=⟨fun hne hb=>h'.blk hne (h.blk hne hb),Zf h.size h'.size,fun hne hb=>h'.cell hne (h.cell hne hb)⟩
theorem Yk.of{P:Nat}{w w':World}(h:Below w.heap.size w w'):Yk P w w':=⟨fun _ hb=>hb.below h hb.lt,h.size,fun _ hb=>by rw[h.cell (Xb hb)];exact hb⟩
theorem Yk.set{P i:Nat}{w:World}(v:Value):Yk P w (w.setCell ⟨P,i,none⟩ v):=⟨fun hne hb=>hb.other (a:=⟨P,i,none⟩) hne v,by rw[size_setCell];exact ZB _,fun hne hb=>by rw[X5 (a:=⟨P,i,none⟩) (h:=fun e=>hne (by injection e with e1;exact e1.symm))];exact hb⟩
theorem Yk.setCells{P o:Nat}{w:World}(vs:List Value):Yk P w (w.setCells P o vs):=⟨fun hne hb=>hb.WX hne _ o,by rw[size_setCells];exact ZB _,fun hne hb=>by rw[World.cell?_setCells_out P vs o w _ (fun e _=>absurd e hne)];exact hb⟩
theorem Yk.drew{P:Nat}{a w:World}(h:Yk P a w):Yk P a w.drew:=⟨fun hne hb=>h.blk hne hb,h.size,fun hne hb=>h.cell hne hb⟩
theorem Us.setCell{base:Nat}{w:World}{v:Value}{us:List SV}{es:List Sp}(h:Us base w v us es){a:Addr}(ha:a.block<base)(u:Value):Us base (w.setCell a u) v us es:=
 ⟨ownsRow_setCell_below h.1 ha u,V6 h.2 fun _ _ hh=>hh.imp fun k=>k.setCell ha u⟩
theorem Us.left{base B:Nat}{w w':World}{v:Value}{us:List SV}{es:List Sp}(h:Us base w v us es)(hL:Left B w w')(hb:B<base):Us base w' v us es:=by
 refine⟨⟨h.1.1,?_⟩,V6 h.2 fun _ _ hh=>hh.imp fun k=>k.left hL hb⟩;rcases h.1.2 with hn|⟨g,cap,cur,rfl,hb',hgg,rest⟩
 ·exact .inl hn
 ·exact .inr ⟨g,cap,cur,rfl,hb',hL.blk QQ hgg,rest⟩
theorem DI.lt{P:Nat}{w:World}{us:List Value}{I:In}{s:St}(h:DI P w us I s):P<w.heap.size:=h.b.lt
theorem DI.to{P:Nat}{w w':World}{us:List Value}{I:In}{s:St}(h:DI P w us I s)(hb:Below w.heap.size w w'):DI P w' us I s:=
 ⟨h.lu,h.b.below hb h.lt,ZE h.Xw h.Xw.size hb,h.ge,h.u0,h.u1,h.ur,h.k0,h.k1,h.k2,h.k3,h.k4,h.o.kept hb,h.p,h.ly,fun i hi=>(h.y i hi).kept hb,h.f1,h.f2,h.m,by obtain⟨ws,hw⟩:=h.e;exact⟨ws,hw.kept hb⟩⟩
theorem DI.drew{P:Nat}{w:World}{us:List Value}{I:In}{s:St}(h:DI P w us I s):DI P w.drew us I s:=h.to (ZH _ _).drew
theorem DI.alloc{P:Nat}{w:World}{us:List Value}{I:In}{s:St}(h:DI P w us I s)(o:Obj):DI P (w.alloc o) us I s:=h.to (ZR _ _)
theorem DI.cell{P:Nat}{w:World}{us:List Value}{I:In}{s:St}(h:DI P w us I s){i:Nat}(hi:i<67):w.cell? ⟨P,i,none⟩=some (vx us i):=h.b.cell (by rw[h.lu];exact hi)
theorem DI.free{P:Nat}{w:World}{us:List Value}{I:In}{s:St}(h:DI P w us I s)(i:Nat):w.frozen? ⟨P,i,none⟩=false:=h.b.free i
theorem DI.c0{P:Nat}{w:World}{us:List Value}{I:In}{s:St}(h:DI P w us I s):w.cell? ⟨P,0,none⟩=some (.slice I.a I.n I.c):=by rw[h.cell QZ,h.u0]
theorem DI.c1{P:Nat}{w:World}{us:List Value}{I:In}{s:St}(h:DI P w us I s):w.cell? ⟨P,1,none⟩=some (.int .i64 (I.k:Int)):=by rw[h.cell QZ,h.u1]
theorem DI.YI{P:Nat}{w:World}{us:List Value}{I:In}{s:St}(h:DI P w us I s):w.cell? ⟨P,29,none⟩=some (.int .i64 s.cm.a):=by rw[h.cell QZ,h.k0]
theorem DI.UE{P:Nat}{w:World}{us:List Value}{I:In}{s:St}(h:DI P w us I s):w.cell? ⟨P,30,none⟩=some (.int .i64 s.cm.b):=by rw[h.cell QZ,h.k1]
theorem DI.c31{P:Nat}{w:World}{us:List Value}{I:In}{s:St}(h:DI P w us I s):w.cell? ⟨P,31,none⟩=some (.int .i64 s.cm.c):=by rw[h.cell QZ,h.k2]
theorem DI.c32{P:Nat}{w:World}{us:List Value}{I:In}{s:St}(h:DI P w us I s):w.cell? ⟨P,32,none⟩=some (.int .i64 s.cm.d):=by rw[h.cell QZ,h.k3]
theorem DI.Ko{P:Nat}{w:World}{us:List Value}{I:In}{s:St}(h:DI P w us I s):w.cell? ⟨P,33,none⟩=some (.int .i64 s.cm.e):=by rw[h.cell QZ,h.k4]
theorem DI.yx{P:Nat}{w:World}{us:List Value}{I:In}{s:St}(h:DI P w us I s):w.cell? ⟨P,35,none⟩=some (.int .i64 s.p):=by rw[h.cell QZ,h.p]
theorem DI.bT{P:Nat}{w:World}{us:List Value}{I:In}{s:St}(h:DI P w us I s):w.cell? ⟨P,63,none⟩=some (.int .i64 s.fk):=by rw[h.cell QZ,h.f1]
theorem DI.c64{P:Nat}{w:World}{us:List Value}{I:In}{s:St}(h:DI P w us I s):w.cell? ⟨P,64,none⟩=some (.int .i64 s.fa):=by rw[h.cell QZ,h.f2]
theorem DI.Mm{P:Nat}{w:World}{us:List Value}{I:In}{s:St}(h:DI P w us I s):w.cell? ⟨P,65,none⟩=some (.int .i64 s.md):=by rw[h.cell QZ,h.m]
theorem DI.sl{P:Nat}{w:World}{us:List Value}{I:In}{s:St}(h:DI P w us I s)(hi:Je I):Ints w I.a I.t:=hi.ints.below h.Xw
theorem DI.rg{P:Nat}{w:World}{us:List Value}{I:In}{s:St}(h:DI P w us I s)(hi:Je I):EN w I.vs I.X:=hi.bH.below h.Xw
theorem DI.rr{P:Nat}{w:World}{us:List Value}{I:In}{s:St}(h:DI P w us I s)(hi:Je I):w.rangeAt P 2 I.vs:=by
 intro j v hv;have hj:j<27:=by rw[<-hi.bH.lv];exact(List.getElem?_eq_some_iff.1 hv).1
 rw[h.cell QQ,h.ur j hj];simp only[vx,Zg,hv,Option.getD_some]
theorem DI.o34{P:Nat}{w:World}{us:List Value}{I:In}{s:St}(h:DI P w us I s):∃a c,w.cell? ⟨P,34,none⟩=some (.slice a s.O.length c)/\s.O.length<=c/\Ints w a s.O:=by
 obtain⟨a,c,h1,h2,h3⟩:=h.o.ints;exact⟨a,c,by rw[h.cell QZ,h1],h2,h3⟩
theorem DI.Ux{P:Nat}{w:World}{us:List Value}{I:In}{s:St}(h:DI P w us I s)(x:Int):DI P (w.setCell ⟨P,35,none⟩ (.int .i64 x)) (us.set 35 (.int .i64 x)) I {s with p:=x}:=
 {lu:=by simpa using h.lu,b:=h.b.set 35 _,Xw:=h.Xw.setCell (p:=⟨P,35,none⟩) h.ge _,ge:=h.ge,u0:=by rw[ZP QQ];exact h.u0,u1:=by rw[ZP QQ];exact h.u1,ur:=fun i hi=>by rw[ZP QQ];exact h.ur i hi,k0:=by rw[ZP QQ];exact h.k0,k1:=by rw[ZP QQ];exact h.k1,k2:=by rw[ZP QQ];exact h.k2,k3:=by rw[ZP QQ];exact h.k3,k4:=by rw[ZP QQ];exact h.k4,o:=by rw[ZP QQ];exact h.o.setCell (a:=⟨P,35,none⟩) (ZF P) _,p:=YC QDi _,ly:=h.ly,y:=fun i hi=>by rw[ZP QQ];exact(h.y i hi).setCell (a:=⟨P,35,none⟩) (ZF P) _,f1:=by rw[ZP QQ];exact h.f1,f2:=by rw[ZP QQ];exact h.f2,m:=by rw[ZP QQ];exact h.m,e:=by rw[ZP QQ];obtain⟨ws,hw⟩:=h.e;exact⟨ws,hw.setCell (a:=⟨P,35,none⟩) (ZF P) _⟩}
theorem DI.eD{P:Nat}{w:World}{us:List Value}{I:In}{s:St}(h:DI P w us I s)(x:Int):DI P (w.setCell ⟨P,63,none⟩ (.int .i64 x)) (us.set 63 (.int .i64 x)) I {s with fk:=x}:=
 {lu:=by simpa using h.lu,b:=h.b.set 63 _,Xw:=h.Xw.setCell (p:=⟨P,63,none⟩) h.ge _,ge:=h.ge,u0:=by rw[ZP QQ];exact h.u0,u1:=by rw[ZP QQ];exact h.u1,ur:=fun i hi=>by rw[ZP QQ];exact h.ur i hi,k0:=by rw[ZP QQ];exact h.k0,k1:=by rw[ZP QQ];exact h.k1,k2:=by rw[ZP QQ];exact h.k2,k3:=by rw[ZP QQ];exact h.k3,k4:=by rw[ZP QQ];exact h.k4,o:=by rw[ZP QQ];exact h.o.setCell (a:=⟨P,63,none⟩) (ZF P) _,p:=by rw[ZP QQ];exact h.p,ly:=h.ly,y:=fun i hi=>by rw[ZP QQ];exact(h.y i hi).setCell (a:=⟨P,63,none⟩) (ZF P) _,f1:=YC QDi _,f2:=by rw[ZP QQ];exact h.f2,m:=by rw[ZP QQ];exact h.m,e:=by rw[ZP QQ];obtain⟨ws,hw⟩:=h.e;exact⟨ws,hw.setCell (a:=⟨P,63,none⟩) (ZF P) _⟩}
theorem DI.eB{P:Nat}{w:World}{us:List Value}{I:In}{s:St}(h:DI P w us I s)(x:Int):DI P (w.setCell ⟨P,64,none⟩ (.int .i64 x)) (us.set 64 (.int .i64 x)) I {s with fa:=x}:=
 {lu:=by simpa using h.lu,b:=h.b.set 64 _,Xw:=h.Xw.setCell (p:=⟨P,64,none⟩) h.ge _,ge:=h.ge,u0:=by rw[ZP QQ];exact h.u0,u1:=by rw[ZP QQ];exact h.u1,ur:=fun i hi=>by rw[ZP QQ];exact h.ur i hi,k0:=by rw[ZP QQ];exact h.k0,k1:=by rw[ZP QQ];exact h.k1,k2:=by rw[ZP QQ];exact h.k2,k3:=by rw[ZP QQ];exact h.k3,k4:=by rw[ZP QQ];exact h.k4,o:=by rw[ZP QQ];exact h.o.setCell (a:=⟨P,64,none⟩) (ZF P) _,p:=by rw[ZP QQ];exact h.p,ly:=h.ly,y:=fun i hi=>by rw[ZP QQ];exact(h.y i hi).setCell (a:=⟨P,64,none⟩) (ZF P) _,f1:=by rw[ZP QQ];exact h.f1,f2:=YC QDi _,m:=by rw[ZP QQ];exact h.m,e:=by rw[ZP QQ];obtain⟨ws,hw⟩:=h.e;exact⟨ws,hw.setCell (a:=⟨P,64,none⟩) (ZF P) _⟩}
theorem DI.qp{P:Nat}{w:World}{us:List Value}{I:In}{s:St}(h:DI P w us I s)(x:Int):DI P (w.setCell ⟨P,65,none⟩ (.int .i64 x)) (us.set 65 (.int .i64 x)) I {s with md:=x}:=
 {lu:=by simpa using h.lu,b:=h.b.set 65 _,Xw:=h.Xw.setCell (p:=⟨P,65,none⟩) h.ge _,ge:=h.ge,u0:=by rw[ZP QQ];exact h.u0,u1:=by rw[ZP QQ];exact h.u1,ur:=fun i hi=>by rw[ZP QQ];exact h.ur i hi,k0:=by rw[ZP QQ];exact h.k0,k1:=by rw[ZP QQ];exact h.k1,k2:=by rw[ZP QQ];exact h.k2,k3:=by rw[ZP QQ];exact h.k3,k4:=by rw[ZP QQ];exact h.k4,o:=by rw[ZP QQ];exact h.o.setCell (a:=⟨P,65,none⟩) (ZF P) _,p:=by rw[ZP QQ];exact h.p,ly:=h.ly,y:=fun i hi=>by rw[ZP QQ];exact(h.y i hi).setCell (a:=⟨P,65,none⟩) (ZF P) _,f1:=by rw[ZP QQ];exact h.f1,f2:=by rw[ZP QQ];exact h.f2,m:=YC QDi _,e:=by rw[ZP QQ];obtain⟨ws,hw⟩:=h.e;exact⟨ws,hw.setCell (a:=⟨P,65,none⟩) (ZF P) _⟩}
theorem DI.QUV{P:Nat}{w:World}{us:List Value}{I:In}{s:St}(h:DI P w us I s)(v:Value)(x:List Int)(hx:Own 3 (P+1) w v x):DI P (w.setCell ⟨P,34,none⟩ v) (us.set 34 v) I {s with O:=x}:=
 {lu:=by simpa using h.lu,b:=h.b.set 34 _,Xw:=h.Xw.setCell (p:=⟨P,34,none⟩) h.ge _,ge:=h.ge,u0:=by rw[ZP QQ];exact h.u0,u1:=by rw[ZP QQ];exact h.u1,ur:=fun i hi=>by rw[ZP QQ];exact h.ur i hi,k0:=by rw[ZP QQ];exact h.k0,k1:=by rw[ZP QQ];exact h.k1,k2:=by rw[ZP QQ];exact h.k2,k3:=by rw[ZP QQ];exact h.k3,k4:=by rw[ZP QQ];exact h.k4,o:=by rw[YC QDi _];exact hx.setCell (a:=⟨P,34,none⟩) (ZF P) _,p:=by rw[ZP QQ];exact h.p,ly:=h.ly,y:=fun i hi=>by rw[ZP QQ];exact(h.y i hi).setCell (a:=⟨P,34,none⟩) (ZF P) _,f1:=by rw[ZP QQ];exact h.f1,f2:=by rw[ZP QQ];exact h.f2,m:=by rw[ZP QQ];exact h.m,e:=by rw[ZP QQ];obtain⟨ws,hw⟩:=h.e;exact⟨ws,hw.setCell (a:=⟨P,34,none⟩) (ZF P) _⟩}
theorem DI.QUU{P:Nat}{w:World}{us:List Value}{I:In}{s:St}(h:DI P w us I s)(v:Value)(ws:List SV)(x:List Sp)(hx:Us (P+1) w v ws x):DI P (w.setCell ⟨P,66,none⟩ v) (us.set 66 v) I {s with es:=x}:=
 {lu:=by simpa using h.lu,b:=h.b.set 66 _,Xw:=h.Xw.setCell (p:=⟨P,66,none⟩) h.ge _,ge:=h.ge,u0:=by rw[ZP QQ];exact h.u0,u1:=by rw[ZP QQ];exact h.u1,ur:=fun i hi=>by rw[ZP QQ];exact h.ur i hi,k0:=by rw[ZP QQ];exact h.k0,k1:=by rw[ZP QQ];exact h.k1,k2:=by rw[ZP QQ];exact h.k2,k3:=by rw[ZP QQ];exact h.k3,k4:=by rw[ZP QQ];exact h.k4,o:=by rw[ZP QQ];exact h.o.setCell (a:=⟨P,66,none⟩) (ZF P) _,p:=by rw[ZP QQ];exact h.p,ly:=h.ly,y:=fun i hi=>by rw[ZP QQ];exact(h.y i hi).setCell (a:=⟨P,66,none⟩) (ZF P) _,f1:=by rw[ZP QQ];exact h.f1,f2:=by rw[ZP QQ];exact h.f2,m:=by rw[ZP QQ];exact h.m,e:=by rw[YC QDi _];exact⟨ws,hx.setCell (a:=⟨P,66,none⟩) (ZF P) _⟩}
def Lj(us:List Value)(o:Nat)(vs:List Value):List Value:=(ow (Xo us) o vs).toList
theorem vK(us:List Value)(o:Nat)(vs:List Value):(Lj us o vs).length=us.length:=by
 unfold Lj;rw[Array.length_toList,FP,Yr]
theorem dY{us:List Value}{o:Nat}{vs:List Value}{i:Nat}(hi:i<us.length):vx (Lj us o vs) i=if o<=i/\i<o+vs.length then vx vs (i-o)else vx us i:=by
 unfold Lj vx;rw[Zg,Array.getElem?_toList,gq vs (Xo us) o i (by rw[Yr];exact hi)];split
 ·rw[Zg]
 ·rw[Zg];simp[Xo]
theorem jI{us:List Value}{o:Nat}{vs:List Value}{i:Nat}(hi:i<us.length)(h:i<o\/o+vs.length<=i):vx (Lj us o vs) i=vx us i:=by
 rw[dY hi,if_neg QQ]
theorem zO{us:List Value}{o:Nat}{vs:List Value}{j:Nat}(hi:o+j<us.length)(h:j<vs.length):vx (Lj us o vs) (o+j)=vx vs j:=by
 rw[dY hi,if_pos QQ,Nat.add_sub_cancel_left]
theorem XG.setCells{w:World}{B:Nat}{us:List Value}{e:TypeId}(h:XG w B us e)(o:Nat)(vs:List Value):XG (w.setCells B o vs) B (Lj us o vs) e:=by
 have:=Za.setCells vs o h;unfold XG Xo Lj;simpa using this
theorem Y9(w:World)(B o:Nat)(vs:List Value):Left B w (w.setCells B o vs):=⟨fun hne hb=>hb.WX hne _ o,fun hN hb=>below_setCells hN _ o hb,size_setCells _ _ _⟩
theorem DI.rD{P:Nat}{w:World}{us:List Value}{I:In}{s:St}(h:DI P w us I s)(vs:List Value)(Y:List (List Int))(hv:PU (P+1) w vs Y):DI P (w.setCells P 36 vs) (Lj us 36 vs) I {s with Y:=Y}:=by
 have hL:=Y9 w P 36 vs;have lu:=h.lu;have lv:=hv.lv;have ne:∀{i:Nat},i<67->(i<36\/63<=i)->vx (Lj us 36 vs) i=vx us i:=fun {i} h1 h2=>jI QQ QQ
 refine {lu:=by rw[vK,lu],b:=h.b.setCells 36 vs,Xw:=hL.Xw h.ge h.Xw,ge:=h.ge,u0:=by rw[ne QQ QQ];exact h.u0,u1:=by rw[ne QQ QQ];exact h.u1,ur:=fun i hi=>by rw[ne QQ QQ];exact h.ur i hi,k0:=by rw[ne QQ QQ];exact h.k0,k1:=by rw[ne QQ QQ];exact h.k1,k2:=by rw[ne QQ QQ];exact h.k2,k3:=by rw[ne QQ QQ];exact h.k3,k4:=by rw[ne QQ QQ];exact h.k4,o:=by rw[ne QQ QQ];exact h.o.left hL (ZF P),p:=by rw[ne QQ QQ];exact h.p,ly:=hv.lx,y:=fun i hi=>by rw[zO QQ QQ];exact(hv.ow i hi).left hL (ZF P),f1:=by rw[ne QQ QQ];exact h.f1,f2:=by rw[ne QQ QQ];exact h.f2,m:=by rw[ne QQ QQ];exact h.m,e:=by rw[ne QQ QQ];obtain⟨ws,hw⟩:=h.e;exact⟨ws,hw.left hL (ZF P)⟩}
theorem DI.jS{P:Nat}{w:World}{us:List Value}{I:In}{s:St}(h:DI P w us I s)(c:C5):DI P (w.setCells P 29 c.cells) (Lj us 29 c.cells) I {s with cm:=c}:=by
 have hL:=Y9 w P 29 c.cells;have lu:=h.lu;have lv:c.cells.length=5:=rfl;have ne:∀{i:Nat},i<67->(i<29\/34<=i)->vx (Lj us 29 c.cells) i=vx us i:=fun {i} h1 h2=>jI QQ QQ
 have at':∀{j:Nat},j<5->vx (Lj us 29 c.cells) (29+j)=vx c.cells j:=fun {j} hj=>zO QQ QQ
 refine {lu:=by rw[vK,lu],b:=h.b.setCells 29 c.cells,Xw:=hL.Xw h.ge h.Xw,ge:=h.ge,u0:=by rw[ne QQ QQ];exact h.u0,u1:=by rw[ne QQ QQ];exact h.u1,ur:=fun i hi=>by rw[ne QQ QQ];exact h.ur i hi,k0:=at' (j:=0) QQ,k1:=at' (j:=1) QQ,k2:=at' (j:=2) QQ,k3:=at' (j:=3) QQ,k4:=at' (j:=4) QQ,o:=by rw[ne QQ QQ];exact h.o.left hL (ZF P),p:=by rw[ne QQ QQ];exact h.p,ly:=h.ly,y:=fun i hi=>by rw[ne QQ QQ];exact(h.y i hi).left hL (ZF P),f1:=by rw[ne QQ QQ];exact h.f1,f2:=by rw[ne QQ QQ];exact h.f2,m:=by rw[ne QQ QQ];exact h.m,e:=by rw[ne QQ QQ];obtain⟨ws,hw⟩:=h.e;exact⟨ws,hw.left hL (ZF P)⟩}
noncomputable def btF(l m:List Int):List Sp:=Classical.epsilon fun es=>BtP l m es
theorem QJi{l m:List Int}{es:List Sp}(h:BtP l m es):btF l m=es:=(Classical.epsilon_spec (p:=fun es=>BtP l m es) ⟨es,h⟩).one h
def Y5(P:Nat)(I:In)(er:Int)(s:St)(w:World)(e:Ending)(w':World):Prop:=e=.returned (.int .i64 er)/\(∃us,DI P w' us I s)/\Yk P w w'
def zI(P:Nat)(I:In)(s:St)(w:World)(e:Ending)(w':World):Prop:=e=.returned (.tuple #[])/\(∃us,DI P w' us I s)/\Yk P w w'
theorem WR(P f g:Nat)(us:List Value)(I:In)(hI:Je I)(s:St)(b:Option Addr)(m d:Nat)(x:List Int)(w:World)(h:DI P w us I s)(hb:Ints w b x)(hm:x.length=m)(hm2:m<=2000)(h0:b=none->m=0)(hfg:f<=g)(hgn:g<=I.n):
  Calls Tryz.prog 169 #[.pointer (some ⟨P,0,none⟩),.int .i64 (f:Int),.int .i64 (g:Int),.slice b m d] w (zI P I {s with O:=I.t.take f++x++I.t.drop g,es:=btF I.t (I.t.take f++x++I.t.drop g)} w):=by
 have hT:=h.sl hI;have HI:=Zy hI;have HN:=Zy hI.len;have hcap:=hI.cap;have htop:=hI.top;have HA0:=Zy hI.none;have c0:=h.c0;have HX:=Zy h;have qd:=h.lt;clear h hI;obtain⟨w0,a,n,c,t,k,vs,X⟩:=I;dsimp only at *;have QVH:=yZ a n c f QQ;have QQz:=uz a n c g hgn;have L1:=Zy (show(t.take f).length=f from QEO);have L2:=Zy (show(t.drop g).length=n-g by rw[Xk,HN.out]);have HM:=Zy hm;have H0:=Zy h0;have Ll:=(Ot w 22 c d (c-g) (hT.take f) hb (hT.mU (c:=c) g QEW (by rw[HN.out];exact hgn)) L1.out HM.out L2.out QQ QQ QQ (fun hz=>by have:=HA0.out hz;omega) H0.out (fun hz=>by have:=HA0.out (Vu hz);omega)).drew;obtain⟨aa,Ra⟩:∃aa,qO a c g=aa:=⟨_,rfl⟩;rw[Ra]at QQz Ll;have Vf:=Zy (show(t.take f++x++t.drop g).length=f+m+(n-g) by rw[ZN,ZN,L1.out,HM.out,L2.out]);have HJ:=Zy (show U6 (NN (t.take f) x (t.drop g)) 3=t.take f++x++t.drop g from Nw _ _ _);have hW:=ZR w (.cells #[.slice a f c,.slice b m d,.slice aa (n-g) (c-g)] 22);clear hm h0 hT hb Ra;go_enter Tryz.func169,Tryz.ntmps169
 go_upto_region 0 with fail
 go_cut [8] (fun v wx=>∃a8 n8 c8,v=.slice a8 n8 c8/\Own 3 (P+1) wx (.slice a8 n8 c8) (t.take f++x++t.drop g)/\Below w.heap.size w wx)
 case first=>
  go_region_law (first|(go_simp;go_at_call 123;refine(WZ _ 3 _ _ _ _ _ Ll QQ).mono ?_;rintro e w8 ⟨v8,rfl,o8,XH⟩;obtain⟨a8,n8,c8,rfl⟩:=o8.form))
  all_goals
   have Jp:Below w.heap.size w w8:=hW.drew.trans (XH.mono (by show _<=(w.alloc _).heap.size;rw[Zu];omega));rw[HJ.out]at o8;have o9:=o8.mono (base':=P+1) (by show P+1<=(w.alloc _).heap.size;rw[Zu];omega);go_wp2;go_meet;exact⟨_,_,_,rfl,o9,Jp⟩
 obtain⟨a8,n8,c8,rfl,o8,XH⟩:=hcut;clear Ll QVH QQz c0 hW;have h8:=HX.out.to XH;have c0:=h8.c0;have g8:=o8.get;have HG:=Zy g8.1;have hi8:=g8.2.1;have hn8:n8<=4096:=by have:=g8.1;have:=Vf.out;omega
 have Qz2:=g8.2.2;have HZ:=Zy (show a8=none->n8=0 from o8.sl.get.2.2.2.2);have zx:=h8.sl HI.out;have H8:=Zy h8;clear g8 h8;go_wp2_with (go_at_call 179;refine(AF a a8 n c n8 c8 t _ _ zx hi8 HN.out HG.out QQ hn8 Qz2 HZ.out).mono ?_;rintro e w9 ⟨v9,ws,es,rfl,so9,hbt,Jp⟩;obtain⟨a9,c9,rfl,-,-,-⟩:=so9.form;have h9:=H8.out.to Jp;have c66:=h9.cell (i:=66) QZ;have f66:=h9.free 66;have h10:=h9.QUU _ ws es (so9.mono (Zc qd XH.size));have c34:=h10.cell (i:=34) QZ;have f34:=h10.free 34;have oC:=(o8.kept Jp).setCell (a:=⟨P,66,none⟩) (ZF P) (.slice a9 es.length c9);have h11:=h10.QUV _ _ oC;have HB:=Zy hbt;clear h9 h10 hbt)
 go_end0
 exact⟨rfl,⟨_,by rw[QJi HB.out];exact h11⟩,((Yk.of XH).trans (Yk.of Jp)).trans (Yk.set _) |>.trans (Yk.set _)⟩
end Go.Proofs.YtmdnepkekekncaaGreat

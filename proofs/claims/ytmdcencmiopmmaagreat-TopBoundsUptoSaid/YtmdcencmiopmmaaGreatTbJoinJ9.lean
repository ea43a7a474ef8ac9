/- LiftTopBounds: joined, no condition of its own. -/
import Derived.Test.YtmdcencmiopmmaaGreatTbJoinT
import Derived.Test.YtmdcencmiopmmaaGreatTbJoinJ2
import Derived.Test.YtmdcencmiopmmaaGreatTbJoinJ3
import Derived.Test.YtmdcencmiopmmaaGreatTbJoinJ8
set_option linter.unusedVariables false
set_option linter.unusedSimpArgs false
set_option maxRecDepth 100000
set_option maxHeartbeats 12000000
namespace Go.Proofs.YtmdcencmiopmmaaGreat
open Go.RowKit
def WB(v:Int):Option (Int×Int):=if v=120 then some (100,108)else if v=88 then some (100,104)else if v=115 then some (99,108)else if v=83 then some (99,99)else if v=67 then some (99,36)else if v=68 then some (100,36)else if v=89 then some (121,121)else none
def M8(c:C5):C5:=match WB c.d with|some (p,q)=>⟨c.a,c.b,p,q,c.e⟩|none=>c
def uu(c:C5):C5:=if c.c≠0 then c else M8 c
theorem Bj(w:World)(u v:Array Value)(e f:TypeId):QD ((w.alloc (.cells u e)).alloc (.cells v f)) w.heap.size u e/\QD ((w.alloc (.cells u e)).alloc (.cells v f)) (w.heap.size+1) v f/\Below w.heap.size w ((w.alloc (.cells u e)).alloc (.cells v f)):=by
 have h:=QD.new (w.alloc (.cells u e)) v f;rw[QJ]at h;exact⟨(QD.new _ _ _).alloc _,h,QS _ _ _⟩
def Vq(c:C5)(ok:Bool)(w:World)(e:Ending)(w':World):Prop:=e=.returned (.tuple #[c.v,.bool ok])/\Below w.heap.size w w'
theorem M5(a b c e:Int)(w:World):Calls Tryz.prog 247 #[.agg #[.int .i64 a,.int .i64 b,.int .i64 c,.int .i64 120,.int .i64 e]] w (Vq ⟨a,b,100,108,e⟩ true w):=by
 obtain⟨hA,hR,hb0⟩:=Bj w #[.int .i64 a,.int .i64 b,.int .i64 c,.int .i64 120,.int .i64 e] #[.int .i64 0,.int .i64 0,.int .i64 0,.int .i64 0,.int .i64 0] 87 87;go_enter Tryz.func247,Tryz.ntmps247
 go_upto_region 1 with fail
 generalize((w.alloc (.cells #[.int .i64 a,.int .i64 b,.int .i64 c,.int .i64 120,.int .i64 e] 87)).alloc (.cells #[.int .i64 0,.int .i64 0,.int .i64 0,.int .i64 0,.int .i64 0] 87))=w1 at *;obtain⟨c0,c1,c2,c3,c4⟩:=hA.five;obtain⟨f0,f1,f2,f3,f4⟩:=hA.Qf;obtain⟨d0,d1,d2,d3,d4⟩:=hR.five;obtain⟨g0,g1,g2,g3,g4⟩:=hR.Qf;have hG:=((hR.other (a:=⟨w.heap.size,2,none⟩) (show w.heap.size+1≠w.heap.size by omega) (.int .i64 100)).other (a:=⟨w.heap.size,3,none⟩) (show w.heap.size+1≠w.heap.size by omega) (.int .i64 108)).jF (.int .i64 a) (.int .i64 b) (.int .i64 100) (.int .i64 108) (.int .i64 e);have kv:=Xm (B:=w.heap.size+1) ((hb0.setCell (p:=⟨w.heap.size,2,none⟩) (QU _) (.int .i64 100)).setCell (p:=⟨w.heap.size,3,none⟩) (QU _) (.int .i64 108)) (by omega) (x0:=.int .i64 a) (x1:=.int .i64 b) (x2:=.int .i64 100) (x3:=.int .i64 108) (x4:=.int .i64 e);obtain⟨y0,y1,y2,y3,y4⟩:=hG.five;have HB:=QQ kv;clear hG kv;go_wp2;refine QV (v:=.tuple #[.agg #[.int .i64 a,.int .i64 b,.int .i64 100,.int .i64 108,.int .i64 e],.bool true]) (by simp[results,Tryz.results247,go_sem,y0,y1,y2,y3,y4]) rfl ?_;exact⟨rfl,HB.out⟩
theorem P8(a b c e:Int)(w:World):Calls Tryz.prog 247 #[.agg #[.int .i64 a,.int .i64 b,.int .i64 c,.int .i64 88,.int .i64 e]] w (Vq ⟨a,b,100,104,e⟩ true w):=by
 obtain⟨hA,hR,hb0⟩:=Bj w #[.int .i64 a,.int .i64 b,.int .i64 c,.int .i64 88,.int .i64 e] #[.int .i64 0,.int .i64 0,.int .i64 0,.int .i64 0,.int .i64 0] 87 87;go_enter Tryz.func247,Tryz.ntmps247
 go_upto_region 1 with fail
 generalize((w.alloc (.cells #[.int .i64 a,.int .i64 b,.int .i64 c,.int .i64 88,.int .i64 e] 87)).alloc (.cells #[.int .i64 0,.int .i64 0,.int .i64 0,.int .i64 0,.int .i64 0] 87))=w1 at *;obtain⟨c0,c1,c2,c3,c4⟩:=hA.five;obtain⟨f0,f1,f2,f3,f4⟩:=hA.Qf;obtain⟨d0,d1,d2,d3,d4⟩:=hR.five;obtain⟨g0,g1,g2,g3,g4⟩:=hR.Qf;have hG:=((hR.other (a:=⟨w.heap.size,2,none⟩) (show w.heap.size+1≠w.heap.size by omega) (.int .i64 100)).other (a:=⟨w.heap.size,3,none⟩) (show w.heap.size+1≠w.heap.size by omega) (.int .i64 104)).jF (.int .i64 a) (.int .i64 b) (.int .i64 100) (.int .i64 104) (.int .i64 e);have kv:=Xm (B:=w.heap.size+1) ((hb0.setCell (p:=⟨w.heap.size,2,none⟩) (QU _) (.int .i64 100)).setCell (p:=⟨w.heap.size,3,none⟩) (QU _) (.int .i64 104)) (by omega) (x0:=.int .i64 a) (x1:=.int .i64 b) (x2:=.int .i64 100) (x3:=.int .i64 104) (x4:=.int .i64 e);obtain⟨y0,y1,y2,y3,y4⟩:=hG.five;have HB:=QQ kv;clear hG kv;go_wp2;refine QV (v:=.tuple #[.agg #[.int .i64 a,.int .i64 b,.int .i64 100,.int .i64 104,.int .i64 e],.bool true]) (by simp[results,Tryz.results247,go_sem,y0,y1,y2,y3,y4]) rfl ?_;exact⟨rfl,HB.out⟩
theorem M7(a b c e:Int)(w:World):Calls Tryz.prog 247 #[.agg #[.int .i64 a,.int .i64 b,.int .i64 c,.int .i64 115,.int .i64 e]] w (Vq ⟨a,b,99,108,e⟩ true w):=by
 obtain⟨hA,hR,hb0⟩:=Bj w #[.int .i64 a,.int .i64 b,.int .i64 c,.int .i64 115,.int .i64 e] #[.int .i64 0,.int .i64 0,.int .i64 0,.int .i64 0,.int .i64 0] 87 87;go_enter Tryz.func247,Tryz.ntmps247
 go_upto_region 1 with fail
 generalize((w.alloc (.cells #[.int .i64 a,.int .i64 b,.int .i64 c,.int .i64 115,.int .i64 e] 87)).alloc (.cells #[.int .i64 0,.int .i64 0,.int .i64 0,.int .i64 0,.int .i64 0] 87))=w1 at *;obtain⟨c0,c1,c2,c3,c4⟩:=hA.five;obtain⟨f0,f1,f2,f3,f4⟩:=hA.Qf;obtain⟨d0,d1,d2,d3,d4⟩:=hR.five;obtain⟨g0,g1,g2,g3,g4⟩:=hR.Qf;have hG:=((hR.other (a:=⟨w.heap.size,2,none⟩) (show w.heap.size+1≠w.heap.size by omega) (.int .i64 99)).other (a:=⟨w.heap.size,3,none⟩) (show w.heap.size+1≠w.heap.size by omega) (.int .i64 108)).jF (.int .i64 a) (.int .i64 b) (.int .i64 99) (.int .i64 108) (.int .i64 e);have kv:=Xm (B:=w.heap.size+1) ((hb0.setCell (p:=⟨w.heap.size,2,none⟩) (QU _) (.int .i64 99)).setCell (p:=⟨w.heap.size,3,none⟩) (QU _) (.int .i64 108)) (by omega) (x0:=.int .i64 a) (x1:=.int .i64 b) (x2:=.int .i64 99) (x3:=.int .i64 108) (x4:=.int .i64 e);obtain⟨y0,y1,y2,y3,y4⟩:=hG.five;have HB:=QQ kv;clear hG kv;go_wp2;refine QV (v:=.tuple #[.agg #[.int .i64 a,.int .i64 b,.int .i64 99,.int .i64 108,.int .i64 e],.bool true]) (by simp[results,Tryz.results247,go_sem,y0,y1,y2,y3,y4]) rfl ?_;exact⟨rfl,HB.out⟩
theorem P9(a b c e:Int)(w:World):Calls Tryz.prog 247 #[.agg #[.int .i64 a,.int .i64 b,.int .i64 c,.int .i64 83,.int .i64 e]] w (Vq ⟨a,b,99,99,e⟩ true w):=by
 obtain⟨hA,hR,hb0⟩:=Bj w #[.int .i64 a,.int .i64 b,.int .i64 c,.int .i64 83,.int .i64 e] #[.int .i64 0,.int .i64 0,.int .i64 0,.int .i64 0,.int .i64 0] 87 87;go_enter Tryz.func247,Tryz.ntmps247
 go_upto_region 1 with fail
 generalize((w.alloc (.cells #[.int .i64 a,.int .i64 b,.int .i64 c,.int .i64 83,.int .i64 e] 87)).alloc (.cells #[.int .i64 0,.int .i64 0,.int .i64 0,.int .i64 0,.int .i64 0] 87))=w1 at *;obtain⟨c0,c1,c2,c3,c4⟩:=hA.five;obtain⟨f0,f1,f2,f3,f4⟩:=hA.Qf;obtain⟨d0,d1,d2,d3,d4⟩:=hR.five;obtain⟨g0,g1,g2,g3,g4⟩:=hR.Qf;have hG:=((hR.other (a:=⟨w.heap.size,2,none⟩) (show w.heap.size+1≠w.heap.size by omega) (.int .i64 99)).other (a:=⟨w.heap.size,3,none⟩) (show w.heap.size+1≠w.heap.size by omega) (.int .i64 99)).jF (.int .i64 a) (.int .i64 b) (.int .i64 99) (.int .i64 99) (.int .i64 e);have kv:=Xm (B:=w.heap.size+1) ((hb0.setCell (p:=⟨w.heap.size,2,none⟩) (QU _) (.int .i64 99)).setCell (p:=⟨w.heap.size,3,none⟩) (QU _) (.int .i64 99)) (by omega) (x0:=.int .i64 a) (x1:=.int .i64 b) (x2:=.int .i64 99) (x3:=.int .i64 99) (x4:=.int .i64 e);obtain⟨y0,y1,y2,y3,y4⟩:=hG.five;have HB:=QQ kv;clear hG kv;go_wp2;refine QV (v:=.tuple #[.agg #[.int .i64 a,.int .i64 b,.int .i64 99,.int .i64 99,.int .i64 e],.bool true]) (by simp[results,Tryz.results247,go_sem,y0,y1,y2,y3,y4]) rfl ?_;exact⟨rfl,HB.out⟩
theorem RQ(a b c e:Int)(w:World):Calls Tryz.prog 247 #[.agg #[.int .i64 a,.int .i64 b,.int .i64 c,.int .i64 67,.int .i64 e]] w (Vq ⟨a,b,99,36,e⟩ true w):=by
 obtain⟨hA,hR,hb0⟩:=Bj w #[.int .i64 a,.int .i64 b,.int .i64 c,.int .i64 67,.int .i64 e] #[.int .i64 0,.int .i64 0,.int .i64 0,.int .i64 0,.int .i64 0] 87 87;go_enter Tryz.func247,Tryz.ntmps247
 go_upto_region 1 with fail
 generalize((w.alloc (.cells #[.int .i64 a,.int .i64 b,.int .i64 c,.int .i64 67,.int .i64 e] 87)).alloc (.cells #[.int .i64 0,.int .i64 0,.int .i64 0,.int .i64 0,.int .i64 0] 87))=w1 at *;obtain⟨c0,c1,c2,c3,c4⟩:=hA.five;obtain⟨f0,f1,f2,f3,f4⟩:=hA.Qf;obtain⟨d0,d1,d2,d3,d4⟩:=hR.five;obtain⟨g0,g1,g2,g3,g4⟩:=hR.Qf;have hG:=((hR.other (a:=⟨w.heap.size,2,none⟩) (show w.heap.size+1≠w.heap.size by omega) (.int .i64 99)).other (a:=⟨w.heap.size,3,none⟩) (show w.heap.size+1≠w.heap.size by omega) (.int .i64 36)).jF (.int .i64 a) (.int .i64 b) (.int .i64 99) (.int .i64 36) (.int .i64 e);have kv:=Xm (B:=w.heap.size+1) ((hb0.setCell (p:=⟨w.heap.size,2,none⟩) (QU _) (.int .i64 99)).setCell (p:=⟨w.heap.size,3,none⟩) (QU _) (.int .i64 36)) (by omega) (x0:=.int .i64 a) (x1:=.int .i64 b) (x2:=.int .i64 99) (x3:=.int .i64 36) (x4:=.int .i64 e);obtain⟨y0,y1,y2,y3,y4⟩:=hG.five;have HB:=QQ kv;clear hG kv;go_wp2;refine QV (v:=.tuple #[.agg #[.int .i64 a,.int .i64 b,.int .i64 99,.int .i64 36,.int .i64 e],.bool true]) (by simp[results,Tryz.results247,go_sem,y0,y1,y2,y3,y4]) rfl ?_;exact⟨rfl,HB.out⟩
theorem Pw(a b c e:Int)(w:World):Calls Tryz.prog 247 #[.agg #[.int .i64 a,.int .i64 b,.int .i64 c,.int .i64 68,.int .i64 e]] w (Vq ⟨a,b,100,36,e⟩ true w):=by
 obtain⟨hA,hR,hb0⟩:=Bj w #[.int .i64 a,.int .i64 b,.int .i64 c,.int .i64 68,.int .i64 e] #[.int .i64 0,.int .i64 0,.int .i64 0,.int .i64 0,.int .i64 0] 87 87;go_enter Tryz.func247,Tryz.ntmps247
 go_upto_region 1 with fail
 generalize((w.alloc (.cells #[.int .i64 a,.int .i64 b,.int .i64 c,.int .i64 68,.int .i64 e] 87)).alloc (.cells #[.int .i64 0,.int .i64 0,.int .i64 0,.int .i64 0,.int .i64 0] 87))=w1 at *;obtain⟨c0,c1,c2,c3,c4⟩:=hA.five;obtain⟨f0,f1,f2,f3,f4⟩:=hA.Qf;obtain⟨d0,d1,d2,d3,d4⟩:=hR.five;obtain⟨g0,g1,g2,g3,g4⟩:=hR.Qf;have hG:=((hR.other (a:=⟨w.heap.size,2,none⟩) (show w.heap.size+1≠w.heap.size by omega) (.int .i64 100)).other (a:=⟨w.heap.size,3,none⟩) (show w.heap.size+1≠w.heap.size by omega) (.int .i64 36)).jF (.int .i64 a) (.int .i64 b) (.int .i64 100) (.int .i64 36) (.int .i64 e);have kv:=Xm (B:=w.heap.size+1) ((hb0.setCell (p:=⟨w.heap.size,2,none⟩) (QU _) (.int .i64 100)).setCell (p:=⟨w.heap.size,3,none⟩) (QU _) (.int .i64 36)) (by omega) (x0:=.int .i64 a) (x1:=.int .i64 b) (x2:=.int .i64 100) (x3:=.int .i64 36) (x4:=.int .i64 e);obtain⟨y0,y1,y2,y3,y4⟩:=hG.five;have HB:=QQ kv;clear hG kv;go_wp2;refine QV (v:=.tuple #[.agg #[.int .i64 a,.int .i64 b,.int .i64 100,.int .i64 36,.int .i64 e],.bool true]) (by simp[results,Tryz.results247,go_sem,y0,y1,y2,y3,y4]) rfl ?_;exact⟨rfl,HB.out⟩
theorem P7(a b c e:Int)(w:World):Calls Tryz.prog 247 #[.agg #[.int .i64 a,.int .i64 b,.int .i64 c,.int .i64 89,.int .i64 e]] w (Vq ⟨a,b,121,121,e⟩ true w):=by
 obtain⟨hA,hR,hb0⟩:=Bj w #[.int .i64 a,.int .i64 b,.int .i64 c,.int .i64 89,.int .i64 e] #[.int .i64 0,.int .i64 0,.int .i64 0,.int .i64 0,.int .i64 0] 87 87;go_enter Tryz.func247,Tryz.ntmps247
 go_upto_region 1 with fail
 generalize((w.alloc (.cells #[.int .i64 a,.int .i64 b,.int .i64 c,.int .i64 89,.int .i64 e] 87)).alloc (.cells #[.int .i64 0,.int .i64 0,.int .i64 0,.int .i64 0,.int .i64 0] 87))=w1 at *;obtain⟨c0,c1,c2,c3,c4⟩:=hA.five;obtain⟨f0,f1,f2,f3,f4⟩:=hA.Qf;obtain⟨d0,d1,d2,d3,d4⟩:=hR.five;obtain⟨g0,g1,g2,g3,g4⟩:=hR.Qf;have hG:=((hR.other (a:=⟨w.heap.size,2,none⟩) (show w.heap.size+1≠w.heap.size by omega) (.int .i64 121)).other (a:=⟨w.heap.size,3,none⟩) (show w.heap.size+1≠w.heap.size by omega) (.int .i64 121)).jF (.int .i64 a) (.int .i64 b) (.int .i64 121) (.int .i64 121) (.int .i64 e);have kv:=Xm (B:=w.heap.size+1) ((hb0.setCell (p:=⟨w.heap.size,2,none⟩) (QU _) (.int .i64 121)).setCell (p:=⟨w.heap.size,3,none⟩) (QU _) (.int .i64 121)) (by omega) (x0:=.int .i64 a) (x1:=.int .i64 b) (x2:=.int .i64 121) (x3:=.int .i64 121) (x4:=.int .i64 e);obtain⟨y0,y1,y2,y3,y4⟩:=hG.five;have HB:=QQ kv;clear hG kv;go_wp2;refine QV (v:=.tuple #[.agg #[.int .i64 a,.int .i64 b,.int .i64 121,.int .i64 121,.int .i64 e],.bool true]) (by simp[results,Tryz.results247,go_sem,y0,y1,y2,y3,y4]) rfl ?_;exact⟨rfl,HB.out⟩
theorem P6(a b c d e:Int)(w:World)(h:WB d=none):Calls Tryz.prog 247 #[.agg #[.int .i64 a,.int .i64 b,.int .i64 c,.int .i64 d,.int .i64 e]] w (Vq ⟨a,b,c,d,e⟩ false w):=by
 have n120:(d==120)=false:=by rw[Qn];rintro rfl;simp[WB]at h
 have n88:(d==88)=false:=by rw[Qn];rintro rfl;simp[WB]at h
 have n115:(d==115)=false:=by rw[Qn];rintro rfl;simp[WB]at h
 have n83:(d==83)=false:=by rw[Qn];rintro rfl;simp[WB]at h
 have n67:(d==67)=false:=by rw[Qn];rintro rfl;simp[WB]at h
 have n68:(d==68)=false:=by rw[Qn];rintro rfl;simp[WB]at h
 have n89:(d==89)=false:=by rw[Qn];rintro rfl;simp[WB]at h
 obtain⟨hA,hR,hb0⟩:=Bj w #[.int .i64 a,.int .i64 b,.int .i64 c,.int .i64 d,.int .i64 e] #[.int .i64 0,.int .i64 0,.int .i64 0,.int .i64 0,.int .i64 0] 87 87;go_enter Tryz.func247,Tryz.ntmps247
 go_upto_region 1 with fail
 generalize((w.alloc (.cells #[.int .i64 a,.int .i64 b,.int .i64 c,.int .i64 d,.int .i64 e] 87)).alloc (.cells #[.int .i64 0,.int .i64 0,.int .i64 0,.int .i64 0,.int .i64 0] 87))=w1 at *;obtain⟨c0,c1,c2,c3,c4⟩:=hA.five;obtain⟨f0,f1,f2,f3,f4⟩:=hA.Qf;obtain⟨d0,d1,d2,d3,d4⟩:=hR.five;obtain⟨g0,g1,g2,g3,g4⟩:=hR.Qf;have hG:=hR.jF (.int .i64 a) (.int .i64 b) (.int .i64 c) (.int .i64 d) (.int .i64 e);have kv:=Xm (B:=w.heap.size+1) hb0 (by omega) (x0:=.int .i64 a) (x1:=.int .i64 b) (x2:=.int .i64 c) (x3:=.int .i64 d) (x4:=.int .i64 e);obtain⟨y0,y1,y2,y3,y4⟩:=hG.five;have HB:=QQ kv;clear hG kv;go_wp2;refine QV (v:=.tuple #[.agg #[.int .i64 a,.int .i64 b,.int .i64 c,.int .i64 d,.int .i64 e],.bool false]) (by simp[results,Tryz.results247,go_sem,y0,y1,y2,y3,y4]) rfl ?_;exact⟨rfl,HB.out⟩
theorem Ji(c:C5)(w:World):Calls Tryz.prog 247 #[c.v] w (Vq (M8 c) (WB c.d).isSome w):=by
 obtain⟨a,b,o,d,e⟩:=c;by_cases OZ:d=120
 ·subst OZ;exact M5 a b o e w
 by_cases h88:d=88
 ·subst h88;exact P8 a b o e w
 by_cases QXs:d=115
 ·subst QXs;exact M7 a b o e w
 by_cases h83:d=83
 ·subst h83;exact P9 a b o e w
 by_cases h67:d=67
 ·subst h67;exact RQ a b o e w
 by_cases h68:d=68
 ·subst h68;exact Pw a b o e w
 by_cases h89:d=89
 ·subst h89;exact P7 a b o e w
 have hn:WB d=none:=by unfold WB;rw[if_neg OZ,if_neg h88,if_neg QXs,if_neg h83,if_neg h67,if_neg h68,if_neg h89]
 have h1:M8 ⟨a,b,o,d,e⟩=⟨a,b,o,d,e⟩:=by unfold M8;simp only[hn]
 have h2:(WB d).isSome=false:=by rw[hn];rfl
 rw[h1];simp only[h2];exact P6 a b o d e w hn
def OV(k:Int):Int:=if k=102 then 70 else if k=70 then 102 else if k=116 then 84 else if k=84 then 116 else k
def zI(fk d:Int):Int:=if d≠59/\d≠44 then d else if fk=0 then d else if d=44 then OV fk else fk
def zL(fk fa d e:Int):Int:=if d≠59/\d≠44 then e else if fk=0 then e else fa
def Eb(fk d:Int):Int:=if d≠59/\d≠44 then 0 else if fk=0 then 5 else 0
theorem nT(w:World)(u v x:Array Value)(e f g:TypeId):QD (((w.alloc (.cells u e)).alloc (.cells v f)).alloc (.cells x g)) w.heap.size u e/\QD (((w.alloc (.cells u e)).alloc (.cells v f)).alloc (.cells x g)) (w.heap.size+1) v f/\QD (((w.alloc (.cells u e)).alloc (.cells v f)).alloc (.cells x g)) (w.heap.size+2) x g/\Below w.heap.size w (((w.alloc (.cells u e)).alloc (.cells v f)).alloc (.cells x g))/\(((w.alloc (.cells u e)).alloc (.cells v f)).alloc (.cells x g)).heap.size=w.heap.size+3:=by
 obtain⟨h1,h2,h3⟩:=Bj w u v e f;have h:=QD.new ((w.alloc (.cells u e)).alloc (.cells v f)) x g;rw[QJ,QJ]at h;exact⟨h1.alloc _,h2.alloc _,h,h3.alloc h3.size _,by rw[QJ,QJ,QJ]⟩
structure In where
 w0:World
 a:Option Addr
 n:Nat
 c:Nat
 t:List Int
 k:Nat
 vs:List Value
 X:List (List Int)
structure YC (I:In):Prop where
 len:I.t.length=I.n
 top:I.n<=200
 cap:I.n<=I.c
 cap2:I.c<=9223372036854775807
 ints:Ints I.w0 I.a I.t
 none:I.a=none->I.n=0
 O4:Ah I.w0 I.vs I.X
 small:∀i,i<27->(rx I.X i).length<=1048576
 k1:I.k<I.n\/I.k=0
structure St where
 cm:C5
 O:List Int
 p:Int
 Y:List (List Int)
 fk:Int
 fa:Int
 md:Int
 es:List Sp
structure DI (P:Nat) (w:World) (us:List Value) (I:In) (s:St):Prop where
 lu:us.length=67
 b:ZY w P us 302
 XW:Below I.w0.heap.size I.w0 w
 ge:I.w0.heap.size<=P
 u0:vx us 0=.slice I.a I.n I.c
 u1:vx us 1=.int .i64 (I.k:Int)
 ur:∀i,i<27->vx us (2+i)=vx I.vs i
 k0:vx us 29=.int .i64 s.cm.a
 k1:vx us 30=.int .i64 s.cm.b
 k2:vx us 31=.int .i64 s.cm.c
 k3:vx us 32=.int .i64 s.cm.d
 k4:vx us 33=.int .i64 s.cm.e
 o:Own 3 (P+1) w (vx us 34) s.O
 p:vx us 35=.int .i64 s.p
 ly:s.Y.length=27
 y:∀i,i<27->Own 3 (P+1) w (vx us (36+i)) (rx s.Y i)
 f1:vx us 63=.int .i64 s.fk
 f2:vx us 64=.int .i64 s.fa
 m:vx us 65=.int .i64 s.md
 e:∃ws,Kz (P+1) w (vx us 66) ws s.es
structure Z6 (P:Nat) (w w':World):Prop where
 blk:∀{B:Nat} {cs:Array Value} {e:TypeId},B≠P->QD w B cs e->QD w' B cs e
 size:w.heap.size<=w'.heap.size
 cell:∀{b i:Nat} {v:Value},b≠P->w.cell? ⟨b,i,none⟩=some v->w'.cell? ⟨b,i,none⟩=some v
theorem Z6.refl(P:Nat)(w:World):Z6 P w w:=⟨fun _ h=>h,QU _,fun _ h=>h⟩
theorem Z6.trans{P:Nat}{a b c:World}(h:Z6 P a b)(h':Z6 P b c):Z6 P a c:=⟨fun hne hb=>h'.blk hne (h.blk hne hb),QL h.size h'.size,fun hne hb=>h'.cell hne (h.cell hne hb)⟩
theorem Z6.of{P:Nat}{w w':World}(h:Below w.heap.size w w'):Z6 P w w':=⟨fun _ hb=>hb.below h hb.lt,h.size,fun _ hb=>by rw[h.cell (Zv hb)];exact hb⟩
theorem Z6.set{P i:Nat}{w:World}(v:Value):Z6 P w (w.setCell ⟨P,i,none⟩ v):=⟨fun hne hb=>hb.other (a:=⟨P,i,none⟩) hne v,by rw[size_setCell];exact QU _,fun hne hb=>by rw[ZO (a:=⟨P,i,none⟩) (h:=fun e=>hne (by injection e with e1;exact e1.symm))];exact hb⟩
theorem Z6.setCells{P o:Nat}{w:World}(vs:List Value):Z6 P w (w.setCells P o vs):=⟨fun hne hb=>hb.Uv hne _ o,by rw[size_setCells];exact QU _,fun hne hb=>by rw[World.cell?_setCells_out P vs o w _ (fun e _=>absurd e hne)];exact hb⟩
theorem Z6.drew{P:Nat}{a w:World}(h:Z6 P a w):Z6 P a w.drew:=⟨fun hne hb=>h.blk hne hb,h.size,fun hne hb=>h.cell hne hb⟩
theorem Kz.setCell{base:Nat}{w:World}{v:Value}{us:List SV}{es:List Sp}(h:Kz base w v us es){a:Addr}(ha:a.block<base)(u:Value):Kz base (w.setCell a u) v us es:=
 ⟨ownsRow_setCell_below h.1 ha u,UU h.2 fun _ _ hh=>hh.imp fun k=>k.setCell ha u⟩
theorem Kz.left{base B:Nat}{w w':World}{v:Value}{us:List SV}{es:List Sp}(h:Kz base w v us es)(hL:Left B w w')(hb:B<base):Kz base w' v us es:=by
 refine⟨⟨h.1.1,?_⟩,UU h.2 fun _ _ hh=>hh.imp fun k=>k.left hL hb⟩;rcases h.1.2 with hn|⟨g,cap,cur,rfl,hb',hgg,rest⟩
 ·exact .inl hn
 ·exact .inr ⟨g,cap,cur,rfl,hb',hL.blk (by omega) hgg,rest⟩
theorem DI.lt{P:Nat}{w:World}{us:List Value}{I:In}{s:St}(h:DI P w us I s):P<w.heap.size:=h.b.lt
theorem DI.to{P:Nat}{w w':World}{us:List Value}{I:In}{s:St}(h:DI P w us I s)(hb:Below w.heap.size w w'):DI P w' us I s:=
 ⟨h.lu,h.b.below hb h.lt,QW h.XW h.XW.size hb,h.ge,h.u0,h.u1,h.ur,h.k0,h.k1,h.k2,h.k3,h.k4,h.o.kept hb,h.p,h.ly,fun i hi=>(h.y i hi).kept hb,h.f1,h.f2,h.m,by obtain⟨ws,hw⟩:=h.e;exact⟨ws,hw.kept hb⟩⟩
theorem DI.drew{P:Nat}{w:World}{us:List Value}{I:In}{s:St}(h:DI P w us I s):DI P w.drew us I s:=h.to (Qx _ _).drew
theorem DI.alloc{P:Nat}{w:World}{us:List Value}{I:In}{s:St}(h:DI P w us I s)(o:Obj):DI P (w.alloc o) us I s:=h.to (QC _ _)
theorem DI.cell{P:Nat}{w:World}{us:List Value}{I:In}{s:St}(h:DI P w us I s){i:Nat}(hi:i<67):w.cell? ⟨P,i,none⟩=some (vx us i):=h.b.cell (by rw[h.lu];exact hi)
theorem DI.free{P:Nat}{w:World}{us:List Value}{I:In}{s:St}(h:DI P w us I s)(i:Nat):w.frozen? ⟨P,i,none⟩=false:=h.b.free i
theorem DI.c0{P:Nat}{w:World}{us:List Value}{I:In}{s:St}(h:DI P w us I s):w.cell? ⟨P,0,none⟩=some (.slice I.a I.n I.c):=by rw[h.cell (by decide),h.u0]
theorem DI.c1{P:Nat}{w:World}{us:List Value}{I:In}{s:St}(h:DI P w us I s):w.cell? ⟨P,1,none⟩=some (.int .i64 (I.k:Int)):=by rw[h.cell (by decide),h.u1]
theorem DI.XY{P:Nat}{w:World}{us:List Value}{I:In}{s:St}(h:DI P w us I s):w.cell? ⟨P,29,none⟩=some (.int .i64 s.cm.a):=by rw[h.cell (by decide),h.k0]
theorem DI.Jl{P:Nat}{w:World}{us:List Value}{I:In}{s:St}(h:DI P w us I s):w.cell? ⟨P,30,none⟩=some (.int .i64 s.cm.b):=by rw[h.cell (by decide),h.k1]
theorem DI.c31{P:Nat}{w:World}{us:List Value}{I:In}{s:St}(h:DI P w us I s):w.cell? ⟨P,31,none⟩=some (.int .i64 s.cm.c):=by rw[h.cell (by decide),h.k2]
theorem DI.c32{P:Nat}{w:World}{us:List Value}{I:In}{s:St}(h:DI P w us I s):w.cell? ⟨P,32,none⟩=some (.int .i64 s.cm.d):=by rw[h.cell (by decide),h.k3]
theorem DI.JA{P:Nat}{w:World}{us:List Value}{I:In}{s:St}(h:DI P w us I s):w.cell? ⟨P,33,none⟩=some (.int .i64 s.cm.e):=by rw[h.cell (by decide),h.k4]
theorem DI.qW{P:Nat}{w:World}{us:List Value}{I:In}{s:St}(h:DI P w us I s):w.cell? ⟨P,35,none⟩=some (.int .i64 s.p):=by rw[h.cell (by decide),h.p]
theorem DI.PX{P:Nat}{w:World}{us:List Value}{I:In}{s:St}(h:DI P w us I s):w.cell? ⟨P,63,none⟩=some (.int .i64 s.fk):=by rw[h.cell (by decide),h.f1]
theorem DI.c64{P:Nat}{w:World}{us:List Value}{I:In}{s:St}(h:DI P w us I s):w.cell? ⟨P,64,none⟩=some (.int .i64 s.fa):=by rw[h.cell (by decide),h.f2]
theorem DI.Fp{P:Nat}{w:World}{us:List Value}{I:In}{s:St}(h:DI P w us I s):w.cell? ⟨P,65,none⟩=some (.int .i64 s.md):=by rw[h.cell (by decide),h.m]
theorem DI.sl{P:Nat}{w:World}{us:List Value}{I:In}{s:St}(h:DI P w us I s)(hi:YC I):Ints w I.a I.t:=hi.ints.below h.XW
theorem DI.rg{P:Nat}{w:World}{us:List Value}{I:In}{s:St}(h:DI P w us I s)(hi:YC I):Ah w I.vs I.X:=hi.O4.below h.XW
theorem DI.rr{P:Nat}{w:World}{us:List Value}{I:In}{s:St}(h:DI P w us I s)(hi:YC I):w.rangeAt P 2 I.vs:=by
 intro j v hv;have hj:j<27:=by rw[<-hi.O4.lv];exact(List.getElem?_eq_some_iff.1 hv).1
 rw[h.cell (by omega),h.ur j hj];simp only[vx,QN,hv,Option.getD_some]
theorem DI.o34{P:Nat}{w:World}{us:List Value}{I:In}{s:St}(h:DI P w us I s):∃a c,w.cell? ⟨P,34,none⟩=some (.slice a s.O.length c)/\s.O.length<=c/\Ints w a s.O:=by
 obtain⟨a,c,h1,h2,h3⟩:=h.o.ints;exact⟨a,c,by rw[h.cell (by decide),h1],h2,h3⟩
theorem DI.Jb{P:Nat}{w:World}{us:List Value}{I:In}{s:St}(h:DI P w us I s)(x:Int):DI P (w.setCell ⟨P,35,none⟩ (.int .i64 x)) (us.set 35 (.int .i64 x)) I {s with p:=x}:=
 {lu:=by simpa using h.lu,b:=h.b.set 35 _,XW:=h.XW.setCell (p:=⟨P,35,none⟩) h.ge _,ge:=h.ge,u0:=by rw[Qu (by omega)];exact h.u0,u1:=by rw[Qu (by omega)];exact h.u1,ur:=fun i hi=>by rw[Qu (by omega)];exact h.ur i hi,k0:=by rw[Qu (by omega)];exact h.k0,k1:=by rw[Qu (by omega)];exact h.k1,k2:=by rw[Qu (by omega)];exact h.k2,k3:=by rw[Qu (by omega)];exact h.k3,k4:=by rw[Qu (by omega)];exact h.k4,o:=by rw[Qu (by omega)];exact h.o.setCell (a:=⟨P,35,none⟩) (Qq P) _,p:=Z9 (by rw[h.lu];decide) _,ly:=h.ly,y:=fun i hi=>by rw[Qu (by omega)];exact(h.y i hi).setCell (a:=⟨P,35,none⟩) (Qq P) _,f1:=by rw[Qu (by omega)];exact h.f1,f2:=by rw[Qu (by omega)];exact h.f2,m:=by rw[Qu (by omega)];exact h.m,e:=by rw[Qu (by omega)];obtain⟨ws,hw⟩:=h.e;exact⟨ws,hw.setCell (a:=⟨P,35,none⟩) (Qq P) _⟩}
theorem DI.RY{P:Nat}{w:World}{us:List Value}{I:In}{s:St}(h:DI P w us I s)(x:Int):DI P (w.setCell ⟨P,63,none⟩ (.int .i64 x)) (us.set 63 (.int .i64 x)) I {s with fk:=x}:=
 {lu:=by simpa using h.lu,b:=h.b.set 63 _,XW:=h.XW.setCell (p:=⟨P,63,none⟩) h.ge _,ge:=h.ge,u0:=by rw[Qu (by omega)];exact h.u0,u1:=by rw[Qu (by omega)];exact h.u1,ur:=fun i hi=>by rw[Qu (by omega)];exact h.ur i hi,k0:=by rw[Qu (by omega)];exact h.k0,k1:=by rw[Qu (by omega)];exact h.k1,k2:=by rw[Qu (by omega)];exact h.k2,k3:=by rw[Qu (by omega)];exact h.k3,k4:=by rw[Qu (by omega)];exact h.k4,o:=by rw[Qu (by omega)];exact h.o.setCell (a:=⟨P,63,none⟩) (Qq P) _,p:=by rw[Qu (by omega)];exact h.p,ly:=h.ly,y:=fun i hi=>by rw[Qu (by omega)];exact(h.y i hi).setCell (a:=⟨P,63,none⟩) (Qq P) _,f1:=Z9 (by rw[h.lu];decide) _,f2:=by rw[Qu (by omega)];exact h.f2,m:=by rw[Qu (by omega)];exact h.m,e:=by rw[Qu (by omega)];obtain⟨ws,hw⟩:=h.e;exact⟨ws,hw.setCell (a:=⟨P,63,none⟩) (Qq P) _⟩}
theorem DI.RX{P:Nat}{w:World}{us:List Value}{I:In}{s:St}(h:DI P w us I s)(x:Int):DI P (w.setCell ⟨P,64,none⟩ (.int .i64 x)) (us.set 64 (.int .i64 x)) I {s with fa:=x}:=
 {lu:=by simpa using h.lu,b:=h.b.set 64 _,XW:=h.XW.setCell (p:=⟨P,64,none⟩) h.ge _,ge:=h.ge,u0:=by rw[Qu (by omega)];exact h.u0,u1:=by rw[Qu (by omega)];exact h.u1,ur:=fun i hi=>by rw[Qu (by omega)];exact h.ur i hi,k0:=by rw[Qu (by omega)];exact h.k0,k1:=by rw[Qu (by omega)];exact h.k1,k2:=by rw[Qu (by omega)];exact h.k2,k3:=by rw[Qu (by omega)];exact h.k3,k4:=by rw[Qu (by omega)];exact h.k4,o:=by rw[Qu (by omega)];exact h.o.setCell (a:=⟨P,64,none⟩) (Qq P) _,p:=by rw[Qu (by omega)];exact h.p,ly:=h.ly,y:=fun i hi=>by rw[Qu (by omega)];exact(h.y i hi).setCell (a:=⟨P,64,none⟩) (Qq P) _,f1:=by rw[Qu (by omega)];exact h.f1,f2:=Z9 (by rw[h.lu];decide) _,m:=by rw[Qu (by omega)];exact h.m,e:=by rw[Qu (by omega)];obtain⟨ws,hw⟩:=h.e;exact⟨ws,hw.setCell (a:=⟨P,64,none⟩) (Qq P) _⟩}
theorem DI.VN{P:Nat}{w:World}{us:List Value}{I:In}{s:St}(h:DI P w us I s)(x:Int):DI P (w.setCell ⟨P,65,none⟩ (.int .i64 x)) (us.set 65 (.int .i64 x)) I {s with md:=x}:=
 {lu:=by simpa using h.lu,b:=h.b.set 65 _,XW:=h.XW.setCell (p:=⟨P,65,none⟩) h.ge _,ge:=h.ge,u0:=by rw[Qu (by omega)];exact h.u0,u1:=by rw[Qu (by omega)];exact h.u1,ur:=fun i hi=>by rw[Qu (by omega)];exact h.ur i hi,k0:=by rw[Qu (by omega)];exact h.k0,k1:=by rw[Qu (by omega)];exact h.k1,k2:=by rw[Qu (by omega)];exact h.k2,k3:=by rw[Qu (by omega)];exact h.k3,k4:=by rw[Qu (by omega)];exact h.k4,o:=by rw[Qu (by omega)];exact h.o.setCell (a:=⟨P,65,none⟩) (Qq P) _,p:=by rw[Qu (by omega)];exact h.p,ly:=h.ly,y:=fun i hi=>by rw[Qu (by omega)];exact(h.y i hi).setCell (a:=⟨P,65,none⟩) (Qq P) _,f1:=by rw[Qu (by omega)];exact h.f1,f2:=by rw[Qu (by omega)];exact h.f2,m:=Z9 (by rw[h.lu];decide) _,e:=by rw[Qu (by omega)];obtain⟨ws,hw⟩:=h.e;exact⟨ws,hw.setCell (a:=⟨P,65,none⟩) (Qq P) _⟩}
theorem DI.QZv{P:Nat}{w:World}{us:List Value}{I:In}{s:St}(h:DI P w us I s)(v:Value)(x:List Int)(hx:Own 3 (P+1) w v x):DI P (w.setCell ⟨P,34,none⟩ v) (us.set 34 v) I {s with O:=x}:=
 {lu:=by simpa using h.lu,b:=h.b.set 34 _,XW:=h.XW.setCell (p:=⟨P,34,none⟩) h.ge _,ge:=h.ge,u0:=by rw[Qu (by omega)];exact h.u0,u1:=by rw[Qu (by omega)];exact h.u1,ur:=fun i hi=>by rw[Qu (by omega)];exact h.ur i hi,k0:=by rw[Qu (by omega)];exact h.k0,k1:=by rw[Qu (by omega)];exact h.k1,k2:=by rw[Qu (by omega)];exact h.k2,k3:=by rw[Qu (by omega)];exact h.k3,k4:=by rw[Qu (by omega)];exact h.k4,o:=by rw[Z9 (by rw[h.lu];decide) _];exact hx.setCell (a:=⟨P,34,none⟩) (Qq P) _,p:=by rw[Qu (by omega)];exact h.p,ly:=h.ly,y:=fun i hi=>by rw[Qu (by omega)];exact(h.y i hi).setCell (a:=⟨P,34,none⟩) (Qq P) _,f1:=by rw[Qu (by omega)];exact h.f1,f2:=by rw[Qu (by omega)];exact h.f2,m:=by rw[Qu (by omega)];exact h.m,e:=by rw[Qu (by omega)];obtain⟨ws,hw⟩:=h.e;exact⟨ws,hw.setCell (a:=⟨P,34,none⟩) (Qq P) _⟩}
theorem DI.QZu{P:Nat}{w:World}{us:List Value}{I:In}{s:St}(h:DI P w us I s)(v:Value)(ws:List SV)(x:List Sp)(hx:Kz (P+1) w v ws x):DI P (w.setCell ⟨P,66,none⟩ v) (us.set 66 v) I {s with es:=x}:=
 {lu:=by simpa using h.lu,b:=h.b.set 66 _,XW:=h.XW.setCell (p:=⟨P,66,none⟩) h.ge _,ge:=h.ge,u0:=by rw[Qu (by omega)];exact h.u0,u1:=by rw[Qu (by omega)];exact h.u1,ur:=fun i hi=>by rw[Qu (by omega)];exact h.ur i hi,k0:=by rw[Qu (by omega)];exact h.k0,k1:=by rw[Qu (by omega)];exact h.k1,k2:=by rw[Qu (by omega)];exact h.k2,k3:=by rw[Qu (by omega)];exact h.k3,k4:=by rw[Qu (by omega)];exact h.k4,o:=by rw[Qu (by omega)];exact h.o.setCell (a:=⟨P,66,none⟩) (Qq P) _,p:=by rw[Qu (by omega)];exact h.p,ly:=h.ly,y:=fun i hi=>by rw[Qu (by omega)];exact(h.y i hi).setCell (a:=⟨P,66,none⟩) (Qq P) _,f1:=by rw[Qu (by omega)];exact h.f1,f2:=by rw[Qu (by omega)];exact h.f2,m:=by rw[Qu (by omega)];exact h.m,e:=by rw[Z9 (by rw[h.lu];decide) _];exact⟨ws,hx.setCell (a:=⟨P,66,none⟩) (Qq P) _⟩}
def EP(us:List Value)(o:Nat)(vs:List Value):List Value:=(ow (ZT us) o vs).toList
theorem yD(us:List Value)(o:Nat)(vs:List Value):(EP us o vs).length=us.length:=by
 unfold EP;rw[Array.length_toList,Bl,XM]
theorem PL{us:List Value}{o:Nat}{vs:List Value}{i:Nat}(hi:i<us.length):vx (EP us o vs) i=if o<=i/\i<o+vs.length then vx vs (i-o)else vx us i:=by
 unfold EP vx;rw[QN,Array.getElem?_toList,Rt vs (ZT us) o i (by rw[XM];exact hi)];split
 ·rw[QN]
 ·rw[QN];simp[ZT]
theorem zW{us:List Value}{o:Nat}{vs:List Value}{i:Nat}(hi:i<us.length)(h:i<o\/o+vs.length<=i):vx (EP us o vs) i=vx us i:=by
 rw[PL hi,if_neg (by omega)]
theorem V9{us:List Value}{o:Nat}{vs:List Value}{j:Nat}(hi:o+j<us.length)(h:j<vs.length):vx (EP us o vs) (o+j)=vx vs j:=by
 rw[PL hi,if_pos (by omega),Nat.add_sub_cancel_left]
theorem ZY.setCells{w:World}{B:Nat}{us:List Value}{e:TypeId}(h:ZY w B us e)(o:Nat)(vs:List Value):ZY (w.setCells B o vs) B (EP us o vs) e:=by
 have:=QD.setCells vs o h;unfold ZY ZT EP;simpa using this
theorem Xg(w:World)(B o:Nat)(vs:List Value):Left B w (w.setCells B o vs):=⟨fun hne hb=>hb.Uv hne _ o,fun hN hb=>below_setCells hN _ o hb,size_setCells _ _ _⟩
theorem DI.dJ{P:Nat}{w:World}{us:List Value}{I:In}{s:St}(h:DI P w us I s)(vs:List Value)(Y:List (List Int))(hv:I6 (P+1) w vs Y):DI P (w.setCells P 36 vs) (EP us 36 vs) I {s with Y:=Y}:=by
 have hL:=Xg w P 36 vs;have lu:=h.lu;have lv:=hv.lv;have ne:∀{i:Nat},i<67->(i<36\/63<=i)->vx (EP us 36 vs) i=vx us i:=fun {i} h1 h2=>zW (by omega) (by omega)
 refine {lu:=by rw[yD,lu],b:=h.b.setCells 36 vs,XW:=hL.XW h.ge h.XW,ge:=h.ge,u0:=by rw[ne (by omega) (by omega)];exact h.u0,u1:=by rw[ne (by omega) (by omega)];exact h.u1,ur:=fun i hi=>by rw[ne (by omega) (by omega)];exact h.ur i hi,k0:=by rw[ne (by omega) (by omega)];exact h.k0,k1:=by rw[ne (by omega) (by omega)];exact h.k1,k2:=by rw[ne (by omega) (by omega)];exact h.k2,k3:=by rw[ne (by omega) (by omega)];exact h.k3,k4:=by rw[ne (by omega) (by omega)];exact h.k4,o:=by rw[ne (by omega) (by omega)];exact h.o.left hL (Qq P),p:=by rw[ne (by omega) (by omega)];exact h.p,ly:=hv.lx,y:=fun i hi=>by rw[V9 (by omega) (by omega)];exact(hv.ow i hi).left hL (Qq P),f1:=by rw[ne (by omega) (by omega)];exact h.f1,f2:=by rw[ne (by omega) (by omega)];exact h.f2,m:=by rw[ne (by omega) (by omega)];exact h.m,e:=by rw[ne (by omega) (by omega)];obtain⟨ws,hw⟩:=h.e;exact⟨ws,hw.left hL (Qq P)⟩}
theorem DI.zu{P:Nat}{w:World}{us:List Value}{I:In}{s:St}(h:DI P w us I s)(c:C5):DI P (w.setCells P 29 c.cells) (EP us 29 c.cells) I {s with cm:=c}:=by
 have hL:=Xg w P 29 c.cells;have lu:=h.lu;have lv:c.cells.length=5:=rfl;have ne:∀{i:Nat},i<67->(i<29\/34<=i)->vx (EP us 29 c.cells) i=vx us i:=fun {i} h1 h2=>zW (by omega) (by omega)
 have at':∀{j:Nat},j<5->vx (EP us 29 c.cells) (29+j)=vx c.cells j:=fun {j} hj=>V9 (by omega) (by omega)
 refine {lu:=by rw[yD,lu],b:=h.b.setCells 29 c.cells,XW:=hL.XW h.ge h.XW,ge:=h.ge,u0:=by rw[ne (by omega) (by omega)];exact h.u0,u1:=by rw[ne (by omega) (by omega)];exact h.u1,ur:=fun i hi=>by rw[ne (by omega) (by omega)];exact h.ur i hi,k0:=at' (j:=0) (by omega),k1:=at' (j:=1) (by omega),k2:=at' (j:=2) (by omega),k3:=at' (j:=3) (by omega),k4:=at' (j:=4) (by omega),o:=by rw[ne (by omega) (by omega)];exact h.o.left hL (Qq P),p:=by rw[ne (by omega) (by omega)];exact h.p,ly:=h.ly,y:=fun i hi=>by rw[ne (by omega) (by omega)];exact(h.y i hi).left hL (Qq P),f1:=by rw[ne (by omega) (by omega)];exact h.f1,f2:=by rw[ne (by omega) (by omega)];exact h.f2,m:=by rw[ne (by omega) (by omega)];exact h.m,e:=by rw[ne (by omega) (by omega)];obtain⟨ws,hw⟩:=h.e;exact⟨ws,hw.left hL (Qq P)⟩}
noncomputable def btF(l m:List Int):List Sp:=Classical.epsilon fun es=>BtP l m es
theorem tF{l m:List Int}{es:List Sp}(h:BtP l m es):btF l m=es:=(Classical.epsilon_spec (p:=fun es=>BtP l m es) ⟨es,h⟩).one h
def Xc(P:Nat)(I:In)(er:Int)(s:St)(w:World)(e:Ending)(w':World):Prop:=e=.returned (.int .i64 er)/\(∃us,DI P w' us I s)/\Z6 P w w'
def Vt(P:Nat)(I:In)(s:St)(w:World)(e:Ending)(w':World):Prop:=e=.returned (.tuple #[])/\(∃us,DI P w' us I s)/\Z6 P w w'
theorem Ug(P f g:Nat)(us:List Value)(I:In)(hI:YC I)(s:St)(b:Option Addr)(m d:Nat)(x:List Int)(w:World)(h:DI P w us I s)(hb:Ints w b x)(hm:x.length=m)(hm2:m<=2000)(h0:b=none->m=0)(hfg:f<=g)(hgn:g<=I.n):
  Calls Tryz.prog 278 #[.pointer (some ⟨P,0,none⟩),.int .i64 (f:Int),.int .i64 (g:Int),.slice b m d] w (Vt P I {s with O:=I.t.take f++x++I.t.drop g,es:=btF I.t (I.t.take f++x++I.t.drop g)} w):=by
 have hT:=h.sl hI;have HI:=QQ hI;have HN:=QQ hI.len;have hcap:=hI.cap;have htop:=hI.top;have HA0:=QQ hI.none;have c0:=h.c0;have HX:=QQ h;have VF:=h.lt;clear h hI;obtain⟨w0,a,n,c,t,k,vs,X⟩:=I;dsimp only at *;have QXC:=Ww a n c f (by omega);have fU:=xH a n c g hgn;have L1:=QQ (show(t.take f).length=f by rw[QT,HN.out];omega);have L2:=QQ (show(t.drop g).length=n-g by rw[Q7,HN.out]);have HM:=QQ hm;have H0:=QQ h0;have En:=(Ib w 26 c d (c-g) (hT.take f) hb (hT.TT (c:=c) g (by rw[HN.out];exact hcap) (by rw[HN.out];exact hgn)) L1.out HM.out L2.out (by omega) (by omega) (by omega) (fun hz=>by have:=HA0.out hz;omega) H0.out (fun hz=>by have:=HA0.out (KO hz);omega)).drew;obtain⟨aa,Mq⟩:∃aa,VD a c g=aa:=⟨_,rfl⟩;rw[Mq]at fU En;have Kt:=QQ (show(t.take f++x++t.drop g).length=f+m+(n-g) by rw[QE,QE,L1.out,HM.out,L2.out]);have HJ:=QQ (show Kj (Gm (t.take f) x (t.drop g)) 3=t.take f++x++t.drop g from He _ _ _);have hW:=QC w (.cells #[.slice a f c,.slice b m d,.slice aa (n-g) (c-g)] 26);clear hm h0 hT hb Mq;go_enter Tryz.func278,Tryz.ntmps278
 go_upto_region 0 with fail
 go_cut [8] (fun v wx=>∃a8 n8 c8,v=.slice a8 n8 c8/\Own 3 (P+1) wx (.slice a8 n8 c8) (t.take f++x++t.drop g)/\Below w.heap.size w wx)
 case first=>
  go_region_law (first|(go_simp;go_at_call 200;refine(Uu _ 3 _ _ _ _ _ En (by omega)).mono ?_;rintro e w8 ⟨v8,rfl,o8,ZU⟩;obtain⟨a8,n8,c8,rfl⟩:=o8.form))
  all_goals
   have YN:Below w.heap.size w w8:=hW.drew.trans (ZU.mono (by show _<=(w.alloc _).heap.size;rw[QJ];omega));rw[HJ.out]at o8;have o9:=o8.mono (base':=P+1) (by show P+1<=(w.alloc _).heap.size;rw[QJ];omega);go_wp2;go_meet;exact⟨_,_,_,rfl,o9,YN⟩
 obtain⟨a8,n8,c8,rfl,o8,ZU⟩:=hcut;clear En QXC fU c0 hW;have h8:=HX.out.to ZU;have c0:=h8.c0;have g8:=o8.get;have HG:=QQ g8.1;have hi8:=g8.2.1;have hn8:n8<=4096:=by have:=g8.1;have:=Kt.out;omega
 have QKE:=g8.2.2;have HZ:=QQ (show a8=none->n8=0 from o8.sl.get.2.2.2.2);have Vf:=h8.sl HI.out;have H8:=QQ h8;clear g8 h8;go_wp2_with (go_at_call 293;refine(jB a a8 n c n8 c8 t _ _ Vf hi8 HN.out HG.out (by omega) hn8 QKE HZ.out).mono ?_;rintro e w9 ⟨v9,ws,es,rfl,so9,hbt,YN⟩;obtain⟨a9,c9,rfl,-,-,-⟩:=so9.form;have h9:=H8.out.to YN;have c66:=h9.cell (i:=66) (by decide);have f66:=h9.free 66;have h10:=h9.QZu _ ws es (so9.mono (QG VF ZU.size));have c34:=h10.cell (i:=34) (by decide);have f34:=h10.free 34;have ai:=(o8.kept YN).setCell (a:=⟨P,66,none⟩) (Qq P) (.slice a9 es.length c9);have h11:=h10.QZv _ _ ai;have HB:=QQ hbt;clear h9 h10 hbt)
 go_end0
 exact⟨rfl,⟨_,by rw[tF HB.out];exact h11⟩,((Z6.of ZU).trans (Z6.of YN)).trans (Z6.set _) |>.trans (Z6.set _)⟩
end Go.Proofs.YtmdcencmiopmmaaGreat

/- LiftTopBounds: joined, no condition of its own. -/
import Derived.Test.YtmdcencmiopmmaaGreatTbJoinT
import Derived.Test.YtmdcencmiopmmaaGreatTbJoinJ1
import Derived.Test.YtmdcencmiopmmaaGreatTbJoinJ9
import Derived.Test.YtmdcencmiopmmaaGreatTbJoinJ13
set_option linter.unusedVariables false
set_option linter.unusedSimpArgs false
set_option maxRecDepth 100000
set_option maxHeartbeats 12000000
namespace Go.Proofs.YtmdcencmiopmmaaGreat
open Go.RowKit
theorem QJt{P:Nat}{fk fa ct rg op vb ar:Int}{w w1:World}{w2:World}(hP:P<w.heap.size)(h:w1.cell? ⟨P,63,none⟩=some (.int .i64 fk)/\w1.cell? ⟨P,64,none⟩=some (.int .i64 fa)/\w1.cell? ⟨P,29,none⟩=some (.int .i64 ct)/\w1.cell? ⟨P,30,none⟩=some (.int .i64 rg)/\w1.cell? ⟨P,31,none⟩=some (.int .i64 op)/\w1.cell? ⟨P,32,none⟩=some (.int .i64 vb)/\w1.cell? ⟨P,33,none⟩=some (.int .i64 ar)/\Below w.heap.size w w1)(hb:Below w.heap.size w1 w2):w2.cell? ⟨P,63,none⟩=some (.int .i64 fk)/\w2.cell? ⟨P,64,none⟩=some (.int .i64 fa)/\w2.cell? ⟨P,29,none⟩=some (.int .i64 ct)/\w2.cell? ⟨P,30,none⟩=some (.int .i64 rg)/\w2.cell? ⟨P,31,none⟩=some (.int .i64 op)/\w2.cell? ⟨P,32,none⟩=some (.int .i64 vb)/\w2.cell? ⟨P,33,none⟩=some (.int .i64 ar)/\Below w.heap.size w w2:=
 ⟨by rw[hb.cell hP];exact h.1,by rw[hb.cell hP];exact h.2.1,by rw[hb.cell hP];exact h.2.2.1,by rw[hb.cell hP];exact h.2.2.2.1,by rw[hb.cell hP];exact h.2.2.2.2.1,by rw[hb.cell hP];exact h.2.2.2.2.2.1,by rw[hb.cell hP];exact h.2.2.2.2.2.2.1,h.2.2.2.2.2.2.2.trans hb⟩
theorem QJ4{w w8:World}(ZU:Below (w.drew).heap.size (w.drew) w8):w.heap.size<=w8.heap.size/\Below w.heap.size w w8:=by
 have h0:w.heap.size<=(w.drew).heap.size:=by simp only[Q8,QJ];omega
 have h1:Below w.heap.size w (w.drew):=(Qx w.heap.size w).drew;have JR:Below w.heap.size w w8:=h1.trans (ZU.mono h0);exact⟨QL h0 ZU.size,JR⟩
theorem QJ3{w w8:World}(ZU:Below ((w.alloc (.cells #[.int .i64 0,.int .i64 0,.int .i64 0] 312)).drew).heap.size ((w.alloc (.cells #[.int .i64 0,.int .i64 0,.int .i64 0] 312)).drew) w8):w.heap.size<=w8.heap.size/\Below w.heap.size w w8/\w.heap.size<w8.heap.size/\w.heap.size+0<w8.heap.size/\w.heap.size≠w8.heap.size/\w8.heap.size≠w.heap.size/\w8.cell? ⟨w.heap.size,0,none⟩=some (.int .i64 0)/\w8.cell? ⟨w.heap.size,1,none⟩=some (.int .i64 0)/\w8.cell? ⟨w.heap.size,2,none⟩=some (.int .i64 0)/\w8.frozen? ⟨w.heap.size,0,none⟩=false/\w8.frozen? ⟨w.heap.size,1,none⟩=false/\w8.frozen? ⟨w.heap.size,2,none⟩=false:=by
 have h0:w.heap.size<=((w.alloc (.cells #[.int .i64 0,.int .i64 0,.int .i64 0] 312)).drew).heap.size:=by simp only[Q8,QJ];omega
 have h1:Below w.heap.size w ((w.alloc (.cells #[.int .i64 0,.int .i64 0,.int .i64 0] 312)).drew):=((Qx w.heap.size w).alloc (QU _) _).drew;have JR:Below w.heap.size w w8:=h1.trans (ZU.mono h0);have h9:w.heap.size+1<=w8.heap.size:=by have:=ZU.size;simp only[Q8,QJ]at this;omega
 have k0:QD w8 w.heap.size #[.int .i64 0,.int .i64 0,.int .i64 0] 312:=(QD.new w #[.int .i64 0,.int .i64 0,.int .i64 0] 312).below (w:=((w.alloc (.cells #[.int .i64 0,.int .i64 0,.int .i64 0] 312)).drew)) ZU (by show _<((w.alloc (.cells #[.int .i64 0,.int .i64 0,.int .i64 0] 312)).drew).heap.size;simp only[Q8,QJ];omega);obtain⟨yo,ym,yl,yh,Pk,Pj⟩:=k0.three;exact⟨QL h0 ZU.size,JR,by omega,by omega,by omega,by omega,yo,ym,yl,yh,Pk,Pj⟩
theorem QJ2{w w8:World}(ZU:Below ((w.alloc (.cells #[.int .i64 0,.int .i64 0] 34)).drew).heap.size ((w.alloc (.cells #[.int .i64 0,.int .i64 0] 34)).drew) w8):w.heap.size<=w8.heap.size/\Below w.heap.size w w8/\w.heap.size<w8.heap.size/\w.heap.size+0<w8.heap.size/\w.heap.size≠w8.heap.size/\w8.heap.size≠w.heap.size/\w8.cell? ⟨w.heap.size,0,none⟩=some (.int .i64 0)/\w8.cell? ⟨w.heap.size,1,none⟩=some (.int .i64 0)/\w8.frozen? ⟨w.heap.size,0,none⟩=false/\w8.frozen? ⟨w.heap.size,1,none⟩=false:=by
 have h0:w.heap.size<=((w.alloc (.cells #[.int .i64 0,.int .i64 0] 34)).drew).heap.size:=by simp only[Q8,QJ];omega
 have h1:Below w.heap.size w ((w.alloc (.cells #[.int .i64 0,.int .i64 0] 34)).drew):=((Qx w.heap.size w).alloc (QU _) _).drew;have JR:Below w.heap.size w w8:=h1.trans (ZU.mono h0);have h9:w.heap.size+1<=w8.heap.size:=by have:=ZU.size;simp only[Q8,QJ]at this;omega
 have k0:QD w8 w.heap.size #[.int .i64 0,.int .i64 0] 34:=(QD.new w #[.int .i64 0,.int .i64 0] 34).below (w:=((w.alloc (.cells #[.int .i64 0,.int .i64 0] 34)).drew)) ZU (by show _<((w.alloc (.cells #[.int .i64 0,.int .i64 0] 34)).drew).heap.size;simp only[Q8,QJ];omega);obtain⟨yo,ym,yl,yh⟩:=k0.two;exact⟨QL h0 ZU.size,JR,by omega,by omega,by omega,by omega,yo,ym,yl,yh⟩
theorem QJ1{w w8:World}(ZU:Below (((w.alloc (.cells #[.int .i64 0,.int .i64 0,.int .i64 0] 312)).alloc (.cells #[.int .i64 0,.int .i64 0] 34)).drew).heap.size (((w.alloc (.cells #[.int .i64 0,.int .i64 0,.int .i64 0] 312)).alloc (.cells #[.int .i64 0,.int .i64 0] 34)).drew) w8):w.heap.size<=w8.heap.size/\Below w.heap.size w w8/\w.heap.size<w8.heap.size/\w.heap.size+1<w8.heap.size/\w.heap.size≠w8.heap.size/\w8.heap.size≠w.heap.size/\w8.cell? ⟨w.heap.size,0,none⟩=some (.int .i64 0)/\w8.cell? ⟨w.heap.size,1,none⟩=some (.int .i64 0)/\w8.cell? ⟨w.heap.size,2,none⟩=some (.int .i64 0)/\w8.frozen? ⟨w.heap.size,0,none⟩=false/\w8.frozen? ⟨w.heap.size,1,none⟩=false/\w8.frozen? ⟨w.heap.size,2,none⟩=false/\w8.cell? ⟨w.heap.size+1,0,none⟩=some (.int .i64 0)/\w8.cell? ⟨w.heap.size+1,1,none⟩=some (.int .i64 0)/\w8.frozen? ⟨w.heap.size+1,0,none⟩=false/\w8.frozen? ⟨w.heap.size+1,1,none⟩=false:=by
 have h0:w.heap.size<=(((w.alloc (.cells #[.int .i64 0,.int .i64 0,.int .i64 0] 312)).alloc (.cells #[.int .i64 0,.int .i64 0] 34)).drew).heap.size:=by simp only[Q8,QJ];omega
 have h1:Below w.heap.size w (((w.alloc (.cells #[.int .i64 0,.int .i64 0,.int .i64 0] 312)).alloc (.cells #[.int .i64 0,.int .i64 0] 34)).drew):=(((Qx w.heap.size w).alloc (QU _) _).alloc (by rw[QJ];omega) _).drew;have JR:Below w.heap.size w w8:=h1.trans (ZU.mono h0);have h9:w.heap.size+2<=w8.heap.size:=by have:=ZU.size;simp only[Q8,QJ]at this;omega
 have k0:QD w8 w.heap.size #[.int .i64 0,.int .i64 0,.int .i64 0] 312:=((QD.new w #[.int .i64 0,.int .i64 0,.int .i64 0] 312).alloc (.cells #[.int .i64 0,.int .i64 0] 34)).below (w:=(((w.alloc (.cells #[.int .i64 0,.int .i64 0,.int .i64 0] 312)).alloc (.cells #[.int .i64 0,.int .i64 0] 34)).drew)) ZU (by show _<(((w.alloc (.cells #[.int .i64 0,.int .i64 0,.int .i64 0] 312)).alloc (.cells #[.int .i64 0,.int .i64 0] 34)).drew).heap.size;simp only[Q8,QJ];omega);obtain⟨yo,ym,yl,yh,Pk,Pj⟩:=k0.three;have k1:QD w8 (w.heap.size+1) #[.int .i64 0,.int .i64 0] 34:=(show QD _ (w.heap.size+1) #[.int .i64 0,.int .i64 0] 34 from(QJ w (.cells #[.int .i64 0,.int .i64 0,.int .i64 0] 312))▸QD.new (w.alloc (.cells #[.int .i64 0,.int .i64 0,.int .i64 0] 312)) #[.int .i64 0,.int .i64 0] 34).below (w:=(((w.alloc (.cells #[.int .i64 0,.int .i64 0,.int .i64 0] 312)).alloc (.cells #[.int .i64 0,.int .i64 0] 34)).drew)) ZU (by show _<(((w.alloc (.cells #[.int .i64 0,.int .i64 0,.int .i64 0] 312)).alloc (.cells #[.int .i64 0,.int .i64 0] 34)).drew).heap.size;simp only[Q8,QJ];omega);obtain⟨Py,Px,Pz,Pq⟩:=k1.two;exact⟨QL h0 ZU.size,JR,by omega,by omega,by omega,by omega,yo,ym,yl,yh,Pk,Pj,Py,Px,Pz,Pq⟩
theorem QJ0{w w8:World}(ZU:Below (((w.alloc (.cells #[.int .i64 0,.int .i64 0] 34)).alloc (.cells #[.int .i64 0,.int .i64 0,.int .i64 0] 312)).drew).heap.size (((w.alloc (.cells #[.int .i64 0,.int .i64 0] 34)).alloc (.cells #[.int .i64 0,.int .i64 0,.int .i64 0] 312)).drew) w8):w.heap.size<=w8.heap.size/\Below w.heap.size w w8/\w.heap.size<w8.heap.size/\w.heap.size+1<w8.heap.size/\w.heap.size≠w8.heap.size/\w8.heap.size≠w.heap.size/\w8.cell? ⟨w.heap.size,0,none⟩=some (.int .i64 0)/\w8.cell? ⟨w.heap.size,1,none⟩=some (.int .i64 0)/\w8.frozen? ⟨w.heap.size,0,none⟩=false/\w8.frozen? ⟨w.heap.size,1,none⟩=false/\w8.cell? ⟨w.heap.size+1,0,none⟩=some (.int .i64 0)/\w8.cell? ⟨w.heap.size+1,1,none⟩=some (.int .i64 0)/\w8.cell? ⟨w.heap.size+1,2,none⟩=some (.int .i64 0)/\w8.frozen? ⟨w.heap.size+1,0,none⟩=false/\w8.frozen? ⟨w.heap.size+1,1,none⟩=false/\w8.frozen? ⟨w.heap.size+1,2,none⟩=false:=by
 have h0:w.heap.size<=(((w.alloc (.cells #[.int .i64 0,.int .i64 0] 34)).alloc (.cells #[.int .i64 0,.int .i64 0,.int .i64 0] 312)).drew).heap.size:=by simp only[Q8,QJ];omega
 have h1:Below w.heap.size w (((w.alloc (.cells #[.int .i64 0,.int .i64 0] 34)).alloc (.cells #[.int .i64 0,.int .i64 0,.int .i64 0] 312)).drew):=(((Qx w.heap.size w).alloc (QU _) _).alloc (by rw[QJ];omega) _).drew;have JR:Below w.heap.size w w8:=h1.trans (ZU.mono h0);have h9:w.heap.size+2<=w8.heap.size:=by have:=ZU.size;simp only[Q8,QJ]at this;omega
 have k0:QD w8 w.heap.size #[.int .i64 0,.int .i64 0] 34:=((QD.new w #[.int .i64 0,.int .i64 0] 34).alloc (.cells #[.int .i64 0,.int .i64 0,.int .i64 0] 312)).below (w:=(((w.alloc (.cells #[.int .i64 0,.int .i64 0] 34)).alloc (.cells #[.int .i64 0,.int .i64 0,.int .i64 0] 312)).drew)) ZU (by show _<(((w.alloc (.cells #[.int .i64 0,.int .i64 0] 34)).alloc (.cells #[.int .i64 0,.int .i64 0,.int .i64 0] 312)).drew).heap.size;simp only[Q8,QJ];omega);obtain⟨yo,ym,yl,yh⟩:=k0.two;have k1:QD w8 (w.heap.size+1) #[.int .i64 0,.int .i64 0,.int .i64 0] 312:=(show QD _ (w.heap.size+1) #[.int .i64 0,.int .i64 0,.int .i64 0] 312 from(QJ w (.cells #[.int .i64 0,.int .i64 0] 34))▸QD.new (w.alloc (.cells #[.int .i64 0,.int .i64 0] 34)) #[.int .i64 0,.int .i64 0,.int .i64 0] 312).below (w:=(((w.alloc (.cells #[.int .i64 0,.int .i64 0] 34)).alloc (.cells #[.int .i64 0,.int .i64 0,.int .i64 0] 312)).drew)) ZU (by show _<(((w.alloc (.cells #[.int .i64 0,.int .i64 0] 34)).alloc (.cells #[.int .i64 0,.int .i64 0,.int .i64 0] 312)).drew).heap.size;simp only[Q8,QJ];omega);obtain⟨Py,Px,Pz,Pq,QQw,QQ9⟩:=k1.three;exact⟨QL h0 ZU.size,JR,by omega,by omega,by omega,by omega,yo,ym,yl,yh,Py,Px,Pz,Pq,QQw,QQ9⟩
theorem mvQ{P B:Nat}{a:Option Addr}{n c:Nat}{k mk ct mg:Int}{w w1 w2:World}(hP:P<w.heap.size)(hB:B<w.heap.size)(h:w1.cell? ⟨P,0,none⟩=some (.slice a n c)/\w1.cell? ⟨P,1,none⟩=some (.int .i64 k)/\w1.cell? ⟨B,0,none⟩=some (.int .i64 mk)/\w1.cell? ⟨B,1,none⟩=some (.int .i64 ct)/\w1.cell? ⟨B,2,none⟩=some (.int .i64 mg)/\Below w.heap.size w w1)(hb:Below w1.heap.size w1 w2):w2.cell? ⟨P,0,none⟩=some (.slice a n c)/\w2.cell? ⟨P,1,none⟩=some (.int .i64 k)/\w2.cell? ⟨B,0,none⟩=some (.int .i64 mk)/\w2.cell? ⟨B,1,none⟩=some (.int .i64 ct)/\w2.cell? ⟨B,2,none⟩=some (.int .i64 mg)/\Below w.heap.size w w2:=by
 obtain⟨h1,h2,h3,h4,h5,h6⟩:=h;have hb':Below w.heap.size w1 w2:=hb.mono h6.size;exact⟨by rw[hb'.cell hP];exact h1,by rw[hb'.cell hP];exact h2,by rw[hb'.cell hB];exact h3,by rw[hb'.cell hB];exact h4,by rw[hb'.cell hB];exact h5,h6.trans hb'⟩
theorem OA(P:Nat)(us:List Value)(I:In)(hI:YC I)(s:St)(w:World)(h:DI P w us I s)(hf:s.fk=0\/WL s.fk=true):
  Calls Tryz.prog 248 #[.pointer (some ⟨P,0,none⟩)] w (Xc P I (ji I s).1 (ji I s).2 w):=by
 have PX:=h.PX;have c64:=h.c64;have XY:=h.XY;have Jl:=h.Jl;have c31:=h.c31;have c32:=h.c32;have JA:=h.JA;have HI:=QQ hI;have HX:=QQ h;have VF:=h.lt;have HM:=QQ (show ji I s=ji I s from rfl);clear h hI;obtain⟨cm,O,p,Y,fk,fa,md,es⟩:=s;obtain⟨ct,rg,op,vb,ar⟩:=cm;dsimp only at PX c64 XY Jl c31 c32 JA hf;obtain⟨mk,hmk⟩:∃mk,zI fk vb=mk:=⟨_,rfl⟩;obtain⟨mg,hmg⟩:∃mg,zL fk fa vb ar=mg:=⟨_,rfl⟩;obtain⟨me,hme⟩:∃me,Eb fk vb=me:=⟨_,rfl⟩;obtain⟨lk,hlk⟩:∃lk,Fe fk vb=lk:=⟨_,rfl⟩;obtain⟨la,hla⟩:∃la,Ff fa vb ar=la:=⟨_,rfl⟩;have FN:∀w1,Calls Tryz.prog 269 #[.agg #[.int .i64 fk,.int .i64 fa],.agg #[.int .i64 ct,.int .i64 rg,.int .i64 op,.int .i64 vb,.int .i64 ar]] w1 (JP mk ct mg lk la me w1):=fun w1=>by
  have:=II fk fa ⟨ct,rg,op,vb,ar⟩ w1 hf;dsimp only at this;rw[hmk,hmg,hme,hlk,hla]at this;exact this
 have HF:=QQ FN;have HV:=QQ (show _/\_/\_/\_/\_ from⟨hmk,hmg,hme,hlk,hla⟩);clear FN hmk hmg hme hlk hla hf HM;go_enter Tryz.func248,Tryz.ntmps248
 go_upto_region 1 with fail
 go_cut [3,4,5] (fun u v e wx=>∃B C,w.heap.size<=C/\u=.pointer (some ⟨B,0,none⟩)/\v=.pointer (some ⟨C,0,none⟩)/\e=.int .i64 me/\wx.cell? ⟨B,0,none⟩=some (.int .i64 mk)/\wx.cell? ⟨B,1,none⟩=some (.int .i64 ct)/\wx.cell? ⟨B,2,none⟩=some (.int .i64 mg)/\wx.cell? ⟨C,0,none⟩=some (.int .i64 lk)/\wx.cell? ⟨C,1,none⟩=some (.int .i64 la)/\Below w.heap.size w wx)
 case first=>
  have HS0:=QQ (show _/\_/\_/\_/\_/\_/\_/\_ from⟨PX,c64,XY,Jl,c31,c32,JA,Qx w.heap.size w⟩);clear HX HI HV
  go_region_held3 (fun w'=>w'.cell? ⟨P,63,none⟩=some (.int .i64 fk)/\w'.cell? ⟨P,64,none⟩=some (.int .i64 fa)/\w'.cell? ⟨P,29,none⟩=some (.int .i64 ct)/\w'.cell? ⟨P,30,none⟩=some (.int .i64 rg)/\w'.cell? ⟨P,31,none⟩=some (.int .i64 op)/\w'.cell? ⟨P,32,none⟩=some (.int .i64 vb)/\w'.cell? ⟨P,33,none⟩=some (.int .i64 ar)/\Below w.heap.size w w') (first|(with_reducible assumption)|(refine QJt VF HS0.out ?_;repeat(first|(with_reducible assumption)|(with_reducible exact Qx _ _)|(with_reducible refine Below.drew ?_)|(with_reducible refine Below.alloc ?_ (by first|(with_reducible assumption)|(with_reducible exact QU _)|(with_reducible exact QK _)|omega|(simp only[QJ,World.size_setCell,Q8];omega)) _)|(with_reducible refine Below.setCell ?_ (by first|(with_reducible assumption)|(with_reducible exact QU _)|(with_reducible exact QK _)|omega|(simp only[QJ,World.size_setCell,Q8];omega)) _)))) (first|(go_at_call 269;(with_reducible show Calls _ _ _ (w.drew) _);refine(HF.out (w.drew)).mono ?_;rintro e w8 ⟨rfl,ZU⟩;obtain⟨hq8,JR⟩:=QJ4 ZU;clear ZU)|(go_at_call 269;(with_reducible show Calls _ _ _ ((w.alloc (.cells #[.int .i64 0,.int .i64 0,.int .i64 0] 312)).drew) _);refine(HF.out ((w.alloc (.cells #[.int .i64 0,.int .i64 0,.int .i64 0] 312)).drew)).mono ?_;rintro e w8 ⟨rfl,ZU⟩;obtain⟨hq8,JR,hs8,hs9,rQ,p9,yo,ym,yl,yh,Pk,Pj⟩:=QJ3 ZU;clear ZU)|(go_at_call 269;(with_reducible show Calls _ _ _ ((w.alloc (.cells #[.int .i64 0,.int .i64 0] 34)).drew) _);refine(HF.out ((w.alloc (.cells #[.int .i64 0,.int .i64 0] 34)).drew)).mono ?_;rintro e w8 ⟨rfl,ZU⟩;obtain⟨hq8,JR,hs8,hs9,rQ,p9,yo,ym,yl,yh⟩:=QJ2 ZU;clear ZU)|(go_at_call 269;(with_reducible show Calls _ _ _ (((w.alloc (.cells #[.int .i64 0,.int .i64 0,.int .i64 0] 312)).alloc (.cells #[.int .i64 0,.int .i64 0] 34)).drew) _);refine(HF.out (((w.alloc (.cells #[.int .i64 0,.int .i64 0,.int .i64 0] 312)).alloc (.cells #[.int .i64 0,.int .i64 0] 34)).drew)).mono ?_;rintro e w8 ⟨rfl,ZU⟩;obtain⟨hq8,JR,hs8,hs9,rQ,p9,yo,ym,yl,yh,Pk,Pj,Py,Px,Pz,Pq⟩:=QJ1 ZU;clear ZU)|(go_at_call 269;(with_reducible show Calls _ _ _ (((w.alloc (.cells #[.int .i64 0,.int .i64 0] 34)).alloc (.cells #[.int .i64 0,.int .i64 0,.int .i64 0] 312)).drew) _);refine(HF.out (((w.alloc (.cells #[.int .i64 0,.int .i64 0] 34)).alloc (.cells #[.int .i64 0,.int .i64 0,.int .i64 0] 312)).drew)).mono ?_;rintro e w8 ⟨rfl,ZU⟩;obtain⟨hq8,JR,hs8,hs9,rQ,p9,yo,ym,yl,yh,Py,Px,Pz,Pq,QQw,QQ9⟩:=QJ0 ZU;clear ZU))
  all_goals
   go_wp2;go_meet;rename_i hHeld;refine⟨_,_,(by first|(with_reducible assumption)|(with_reducible exact QU _)|(with_reducible exact QK _)|omega|(simp only[QJ,World.size_setCell,Q8];omega)),rfl,rfl,rfl,?_,?_,?_,?_,?_,hHeld.2.2.2.2.2.2.2⟩
   all_goals go_simp
 obtain⟨B,C,hC,rfl,rfl,rfl,b0,b1,b2,l0,l1,hb1⟩:=hcut;have h1:=HX.out.to hb1;clear PX c64 XY Jl c31 c32 JA;have HPC:=QQ (show C≠P by omega);by_cases he:me=0
 ·subst he
  have hT:=h1.sl HI.out;have c0:=h1.c0;have c1:=h1.c1;have c31:=h1.c31;have qW:=h1.qW;have PX:=h1.PX;have c64:=h1.c64;dsimp only at c31;have H1:=QQ h1;have hk4:I.k<=200:=by have:=HI.out.k1;have:=HI.out.top;omega
  have HK:yT (I.k:Int):=⟨by omega,by omega⟩;have HH:=QQ HK;by_cases h0:op=0
  ·subst h0
   obtain⟨A,hA⟩:∃A,yO I.t I.k mk ct mg false=A:=⟨_,rfl⟩;obtain⟨bb,hbb⟩:∃bb,Iu I.t I.k mk ct mg false=bb:=⟨_,rfl⟩;obtain⟨E,hE⟩:∃E,WW I.t I.k mk ct mg false=E:=⟨_,rfl⟩;have GO:∀w2,Below wc.heap.size wc w2->Calls Tryz.prog 270 #[.slice I.a I.n I.c,.int .i64 (I.k:Int),.agg #[.int .i64 mk,.int .i64 ct,.int .i64 mg],.bool false] w2 (xx A bb E w2):=fun w2 hb=>by
    rw[<-hA,<-hbb,<-hE];exact Ue I.a I.n I.c I.t I.k mk ct mg false w2 (hT.below hb) HI.out.len (by have:=HI.out.top;omega) HH.out
   have HGO:=QQ GO;have HV2:=QQ (show _/\_/\_ from⟨hA,hbb,hE⟩);clear GO hA hbb hE h1 hT;have N8:P<wc.heap.size:=H1.out.lt;have hBc:B<wc.heap.size:=Zv b0;go_upto_region 5 with fail
   go_cut [6,8] (fun u e wx=>u=.int .i64 A/\e=.int .i64 E/\Below wc.heap.size wc wx)
   case first=>
    go_region_held3 (fun w'=>w'.cell? ⟨P,0,none⟩=some (.slice I.a I.n I.c)/\w'.cell? ⟨P,1,none⟩=some (.int .i64 (I.k:Int))/\w'.cell? ⟨B,0,none⟩=some (.int .i64 mk)/\w'.cell? ⟨B,1,none⟩=some (.int .i64 ct)/\w'.cell? ⟨B,2,none⟩=some (.int .i64 mg)/\Below wc.heap.size wc w') (first|exact⟨c0,c1,b0,b1,b2,(Qx _ _).drew⟩|assumption|exact mvQ N8 hBc ‹_› ‹_›) (first|(go_at_call 270;refine(HGO.out _ (Qx _ _).drew).mono ?_;rintro e w8 ⟨rfl,ZU⟩))
    all_goals
     go_wp2;go_meet;exact⟨rfl,rfl,((Qx _ _).drew).trans ZU⟩
   obtain⟨rfl,rfl,hb2⟩:=hcut;have h2:=H1.out.to hb2;have d35:=h2.qW;have d63:=h2.PX;have d64:=h2.c64;have f35:=h2.free 35;have f63:=h2.free 63;have f64:=h2.free 64;have d0:=l0;rw[<-hb2.cell (Zv l0)]at d0;have d1:=l1;rw[<-hb2.cell (Zv l1)]at d1;have HB2:=QQ ((Z6.of (P:=P) hb1).trans (Z6.of hb2));have H2:=QQ h2;clear h2 hb2 c0 c1 c31 qW PX c64 b0 b1 b2 l0 l1 HF;by_cases hE0:E=0
   ·subst hE0
    have hmv:ji I ⟨⟨ct,rg,0,vb,ar⟩,O,p,Y,fk,fa,md,es⟩=(0,⟨⟨ct,rg,0,vb,ar⟩,O,A,Y,lk,la,md,es⟩):=by
     obtain⟨v1,v2,v3,v4,v5⟩:=HV.out;obtain⟨x1,x2,x3⟩:=HV2.out;unfold ji;dsimp only;rw[v1,v2,v3,v4,v5,if_neg (by decide),if_pos rfl,x3,if_neg (by decide),x1]
    have Oi:=QQ hmv;clear hmv;go_upto_region 7 with fail
    go_region
    all_goals
     go_wp2;go_ret;rw[Oi.out]
     first
      | exact⟨rfl,⟨_,((H2.out.drew.Jb A).RY lk).RX la⟩,HB2.out.drew.trans (((Z6.set _).trans (Z6.set _)).trans (Z6.set _))⟩
      | exact⟨rfl,⟨_,((H2.out.drew.RY lk).RX la).Jb A⟩,HB2.out.drew.trans (((Z6.set _).trans (Z6.set _)).trans (Z6.set _))⟩
   ·have n0:(E==0)=false:=by simpa using hE0
    have HE0:=QQ hE0;clear hE0;go_wp2;go_ret;have hmv:ji I ⟨⟨ct,rg,0,vb,ar⟩,O,p,Y,fk,fa,md,es⟩=(E,⟨⟨ct,rg,0,vb,ar⟩,O,p,Y,fk,fa,md,es⟩):=by
     obtain⟨v1,v2,v3,v4,v5⟩:=HV.out;obtain⟨x1,x2,x3⟩:=HV2.out;unfold ji;dsimp only;rw[v1,v2,v3,if_neg (by decide),if_pos rfl,x3,if_pos HE0.out]
    rw[hmv];exact⟨rfl,⟨_,H2.out⟩,HB2.out⟩
  ·have nop:(op==0)=false:=by simpa using h0
   have FM:=QQ h0;clear h0;obtain⟨F,hF⟩:∃F,NW I.t I.k mk ct mg=F:=⟨_,rfl⟩;obtain⟨T,mV⟩:∃T,RD I.t I.k mk ct mg=T:=⟨_,rfl⟩;obtain⟨E,hE⟩:∃E,WW I.t I.k mk ct mg true=E:=⟨_,rfl⟩;have RA:∀w2,Below wc.heap.size wc w2->Calls Tryz.prog 271 #[.slice I.a I.n I.c,.int .i64 (I.k:Int),.agg #[.int .i64 mk,.int .i64 ct,.int .i64 mg]] w2 (I7 F T E w2):=fun w2 hb=>by
    rw[<-hF,<-mV,<-hE];exact zN I.a I.n I.c I.t I.k mk ct mg w2 (hT.below hb) HI.out.len (by have:=HI.out.top;omega) HH.out
   have HBD:=QQ (show E=0->0<=F/\F<=T/\T<=(I.n:Int)from fun e=>by rw[<-hF,<-mV,<-HI.out.len];exact QZF (hE.trans e));have HRA:=QQ RA;have HV2:=QQ (show _/\_/\_ from⟨hF,mV,hE⟩);clear RA hF mV hE h1 hT;have N8:P<wc.heap.size:=H1.out.lt;have hBc:B<wc.heap.size:=Zv b0;go_upto_region 9 with fail
   go_cut [9,10,5] (fun u v e wx=>u=.int .i64 F/\v=.int .i64 T/\e=.int .i64 E/\Below wc.heap.size wc wx)
   case first=>
    go_region_held3 (fun w'=>w'.cell? ⟨P,0,none⟩=some (.slice I.a I.n I.c)/\w'.cell? ⟨P,1,none⟩=some (.int .i64 (I.k:Int))/\w'.cell? ⟨B,0,none⟩=some (.int .i64 mk)/\w'.cell? ⟨B,1,none⟩=some (.int .i64 ct)/\w'.cell? ⟨B,2,none⟩=some (.int .i64 mg)/\Below wc.heap.size wc w') (first|exact⟨c0,c1,b0,b1,b2,(Qx _ _).drew⟩|assumption|exact mvQ N8 hBc ‹_› ‹_›) (first|(go_at_call 271;refine(HRA.out _ (Qx _ _).drew).mono ?_;rintro e w8 ⟨rfl,ZU⟩))
    all_goals
     go_wp2;go_meet;exact⟨rfl,rfl,rfl,((Qx _ _).drew).trans ZU⟩
   obtain⟨rfl,rfl,rfl,hb2⟩:=hcut;have h2:=H1.out.to hb2;have d0:=l0;rw[<-hb2.cell (Zv l0)]at d0;have d1:=l1;rw[<-hb2.cell (Zv l1)]at d1;have HB2:=QQ ((Z6.of (P:=P) hb1).trans (Z6.of hb2));have H2:=QQ h2;clear h2 hb2 c0 c1 c31 qW PX c64 b0 b1 b2 l0 l1 HF;by_cases hE0:E=0
   ·subst hE0
    obtain⟨x1,x2,x3⟩:=HBD.out rfl;obtain⟨f,rfl⟩:=Qg x1;obtain⟨g,rfl⟩:=Qg (show 0<=T by omega);have CT:=KH P f g false us I HI.out _ wc H2.out (by omega) (by omega);obtain⟨r1,r2,hr⟩:∃r1 r2,Aq I ⟨⟨ct,rg,op,vb,ar⟩,O,p,Y,fk,fa,md,es⟩ f g false=(r1,r2):=⟨_,_,rfl⟩;rw[hr]at CT;have zV:=QQ CT;have HR:=QQ hr;have D0:=QQ d0;have D1:=QQ d1;clear CT hr x1 x2 x3 d0 d1;by_cases hr0:r1=0
    ·subst hr0
     have hmv:ji I ⟨⟨ct,rg,op,vb,ar⟩,O,p,Y,fk,fa,md,es⟩=(0,{r2 with fk:=lk,fa:=la}):=by
      obtain⟨v1,v2,v3,v4,v5⟩:=HV.out;obtain⟨x1,x2,x3⟩:=HV2.out;unfold ji;dsimp only;rw[v1,v2,v3,v4,v5,if_neg (by decide),if_neg FM.out,x3,if_neg (by decide),x1,x2,Qs,Qs,HR.out];rfl
     have Oi:=QQ hmv;clear hmv;go_wp2_with (go_at_call 250;go_loud (refine(zV.out).mono ?_;rintro e w9 ⟨rfl,⟨us9,h9⟩,VQ⟩;have g0:=VQ.cell HPC.out D0.out;have g1:=VQ.cell HPC.out D1.out;have PX:=h9.PX;have c64:=h9.c64;have f63:=h9.free 63;have f64:=h9.free 64;have H9:=QQ h9;clear h9))
     go_ret;rw[Oi.out];exact⟨rfl,⟨_,(H9.out.RY lk).RX la⟩,(HB2.out.trans VQ).trans ((Z6.set _).trans (Z6.set _))⟩
    ·have n0:(r1 !=0)=true:=by simpa using hr0
     have YD:=QQ hr0;clear hr0;go_wp2_with (go_at_call 250;go_loud (refine(zV.out).mono ?_;rintro e w9 ⟨rfl,Sa,VQ⟩))
     go_ret;have hmv:ji I ⟨⟨ct,rg,op,vb,ar⟩,O,p,Y,fk,fa,md,es⟩=(r1,r2):=by
      obtain⟨v1,v2,v3,v4,v5⟩:=HV.out;obtain⟨x1,x2,x3⟩:=HV2.out;unfold ji;dsimp only;rw[v1,v2,v3,if_neg (by decide),if_neg FM.out,x3,if_neg (by decide),x1,x2,Qs,Qs,HR.out];dsimp only;rw[if_pos YD.out]
     rw[hmv];exact⟨rfl,Sa,HB2.out.trans VQ⟩
   ·have n0:(E !=0)=true:=by simpa using hE0
    have HE0:=QQ hE0;clear hE0;go_wp2;go_ret;have hmv:ji I ⟨⟨ct,rg,op,vb,ar⟩,O,p,Y,fk,fa,md,es⟩=(E,⟨⟨ct,rg,op,vb,ar⟩,O,p,Y,fk,fa,md,es⟩):=by
     obtain⟨v1,v2,v3,v4,v5⟩:=HV.out;obtain⟨x1,x2,x3⟩:=HV2.out;unfold ji;dsimp only;rw[v1,v2,v3,if_neg (by decide),if_neg FM.out,x3,if_pos HE0.out]
    rw[hmv];exact⟨rfl,⟨_,H2.out⟩,HB2.out⟩
 ·have n0:(me !=0)=true:=by simpa using he
  have H1:=QQ h1;have HE:=QQ he;clear he h1;go_wp2;go_ret;obtain⟨v1,v2,v3,v4,v5⟩:=HV.out;have hmv:ji I ⟨⟨ct,rg,op,vb,ar⟩,O,p,Y,fk,fa,md,es⟩=(me,⟨⟨ct,rg,op,vb,ar⟩,O,p,Y,fk,fa,md,es⟩):=by
   unfold ji;dsimp only;rw[v3,if_pos HE.out]
  rw[hmv];exact⟨rfl,⟨_,H1.out⟩,Z6.of hb1⟩
def Jo(xs out:List Int)(m:Nat):Prop:=∀i,i<m->ix out i=ix xs (i % xs.length)
theorem jA(out ys:List Int)(m:Nat):splice (out.map (Value.int .i64)) m (ys.map (Value.int .i64))=(splice out m ys).map (Value.int .i64):=by simp[splice]
theorem Gb(out ys:List Int)(m i:Nat)(hm:m<=out.length)(hi:i<m):ix (splice out m ys) i=ix out i:=by
 unfold splice;rw[Xj (by simp;omega),Xt (by simp;omega),Xt (show i<out.length by omega)];simp
theorem jv(out ys:List Int)(m i:Nat)(hm:m<=out.length)(hi:i<ys.length):ix (splice out m ys) (m+i)=ix ys i:=by
 unfold splice;have:(out.take m).length=m:=by simp;omega
 rw[show m+i=(out.take m).length+i from by rw[this],Y9,Xj hi]
theorem Jo.first{xs out:List Int}(h:xs.length<=out.length):Jo xs (splice out 0 xs) xs.length:=fun i hi=>by
 have:=jv out xs 0 i (Qe _) hi;rw[Zu]at this;rw[this,Nat.mod_eq_of_lt hi]
theorem Jo.more{xs out:List Int}{m d q:Nat}(h:Jo xs out m)(hm:m<=out.length)(hd:d<=m)(hq:m=xs.length*q):Jo xs (splice out m (out.take d)) (m+d):=fun i hi=>by
 by_cases h1:i<m
 ·rw[Gb _ _ _ _ hm h1];exact h i h1
 ·obtain⟨j,rfl⟩:∃j,i=m+j:=⟨i-m,by omega⟩
  have hj:j<(out.take d).length:=by simp;omega
  rw[jv _ _ _ _ hm hj,Xt hj,List.getElem_take,<-Xt,h j (by omega),hq,Nat.mul_add_mod]
theorem Jo.all{xs out:List Int}{k:Nat}(h:Jo xs out (xs.length*k))(hl:out.length=xs.length*k):out=Vv xs k:=by
 refine zl (by rw[hl,VO]) fun i hi=>?_
 rw[h i (by omega),dV _ _ _ (by omega)]
theorem LG:(Tryz.prog.info? 3).map (·.size)=some 1:=by
 obtain⟨i0,hi,hz0,hz1,hz2⟩:=ZF Yq;rw[hi];simp[hz1]
theorem ER{ys:List Int}:∀v∈ys.map (Value.int .i64),v.oneCell'=true:=by
 intro u hu;obtain⟨y,_,rfl⟩:=List.mem_map.1 hu;rfl
theorem Ints.src{w:World}{a:Option Addr}{ys:List Int}(h:Ints w a ys)(hp:0<ys.length):∃ad,a=some ad/\∀j v,(ys.map (Value.int .i64))[j]? =some v->w.cell? (ad.add j)=some v:=by
 rcases h with h|⟨b,o',ha,hc⟩
 ·subst h;simp at hp
 ·refine⟨_,ha,fun j v hj=>?_⟩
  have hlt:j<ys.length:=by
   exact Qv6
  exact Qub
theorem jc{w:World}{g base:Nat}{xs:List Int}{e:TypeId}(h:QD w g (xs.map (Value.int .i64)).toArray e)(hb:base<=g)(hl:xs.length<=17592186044416):Own e base w (.slice (some ⟨g,0,none⟩) xs.length xs.length) xs:=
 ⟨by simp,.inr ⟨g,xs.length,_,rfl,hb,h,QU _,by unfold maxLen;omega,by simp,by rw[Nat.mul_one,Q5 (by simp)]⟩⟩
def iV(xs:List Int)(k:Nat)(w:World)(e:Ending)(w':World):Prop:=∃v,e=.returned v/\Own 3 w.heap.size w' v (Vv xs k)/\Below w.heap.size w w'
theorem Uk(a:Option Addr)(n c k:Nat)(xs:List Int)(w:World)(ha:Ints w a xs)(hn:xs.length=n)(hk:k<=4096)(hl:n<=4096):
  Calls Tryz.prog 63 #[.slice a n c,.int .i64 (k:Int)] w (iV xs k w):=by
 have HN:=QQ hn;clear hn;have hT:n*k<=16777216:=Nat.mul_le_mul hl hk;have hlo:n*k % 18446744073709551616=n*k:=Nat.mod_eq_of_lt (by omega);have hhi:n*k / 18446744073709551616=0:=Nat.div_eq_of_lt (by omega);obtain⟨T,hTe⟩:∃T,T=n*k:=⟨_,rfl⟩;have hmk:=qP T T (QU _) (by omega);have mV:T<=16777216:=by omega
 have hnT:T=0\/1<=n/\1<=k/\n<=T:=by
  rcases Zx k with rfl|hk1
  ·left;simpa using hTe
  ·rcases Zx n with rfl|hn1
   ·left;simpa using hTe
   ·right;exact⟨hn1,hk1,by rw[hTe];exact Nat.le_mul_of_pos_right _ hk1⟩
 have hB:=QD.new w ((List.replicate T (0:Int)).map (Value.int .i64)).toArray 3;rw[<-yF]at hB;have hb1:=QC w (.cells (madeCells #[.int .i64 0] T) 3);have hd:(xs.take (min n T)).length=Nat.min n T:=by rw[QT,HN.out];show min (min n T) n=min n T;omega
 obtain⟨ys,hys⟩:∃ys,ys=xs.take (min n T):=⟨_,rfl⟩;have hsrc:=(show Ints w a ys by rw[hys];exact ha.take _).below hb1;have HD:=QQ (show ys.length=Nat.min n T by rw[hys];exact hd);have HYS:=QQ hys;have hdT:Nat.min n T<=T:=Nat.min_le_right _ _;have HNT:=QQ hnT;clear hd hys;go_enter Tryz.func63,Tryz.ntmps63
 go_wp2_with fail
 refine(Tp n k (by omega) (by omega) w).mono ?_;rintro e w' ⟨rfl,rfl⟩;rw[hhi,hlo,<-hTe];have HTE:=QQ hTe;clear hlo hhi hTe hnT hT;go_wp2_with (show wpList _ _ _ (⟨some 33,_,_,_,_,_⟩::_) _ _;revert HYS)
 intro HYS
 (refine wpList_copy_splice (o:=⟨some 33,_,_,_,_,_⟩) rfl _ _ _ _ rfl 3 Tryz.underlying26 LG _ _ _ _ _ _ rfl rfl w'.heap.size 0 ((List.replicate T (0:Int)).map (Value.int .i64)) 3 (by have h:=hB;unfold QD at h;rw[h,yF]) (ys.map (Value.int .i64)) (by rw[Zn];exact HD.out) (fun hp=>⟨rfl,hsrc.src (by simpa using hp)⟩) (by simp;rw[HD.out];exact hdT) ER w'.heap.size w' hb1 (QU _) ?_;intro w2 hw2 hb2)
 clear hb1 hB hmk hsrc;rw[Zn,HD.out];obtain⟨d,hdd⟩:∃d,Nat.min n T=d:=⟨_,rfl⟩;rw[hdd]at hdT ⊢;have hrow:Hid (∃out:List Int,w2.heap[w'.heap.size]? =some (.cells (out.map (Value.int .i64)).toArray 3 (0,0))/\out.length=T/\Jo xs out d/\(d<T->0<d/\∃q,d=n*q)):=QQ (by
  have h:=hw2.out;rw[jA]at h;refine⟨_,h,by rw[length_splice _ _ _ (by rw[HD.out,hdd];simpa using hdT)];simp,?_,?_⟩
  ·rcases HNT.out with h0|⟨h1,h2,h3⟩
   ·have:d=0:=by omega
    subst this;intro i hi;omega
   ·have hd:d=n:=by rw[<-hdd];exact XC h3
    have:ys=xs:=by rw[HYS.out,XC h3,<-HN.out,List.take_length]
    subst this;rw[hd,<-HN.out];exact Jo.first (by simp;rw[HN.out];exact h3)
  ·intro hlt
   rcases HNT.out with h0|⟨h1,h2,h3⟩
   ·omega
   ·have hd:d=n:=by rw[<-hdd];exact XC h3
    exact⟨by omega,1,by omega⟩)
 clear hw2 hdd HD HYS;go_wp2
 go_loopw [8] (fun i wr=>∃(m:Nat) (out:List Int),i=.int .i64 (m:Int)/\m<=T/\QD wr w'.heap.size (out.map (Value.int .i64)).toArray 3/\out.length=T/\Jo xs out m/\(m<T->0<m/\∃q,m=n*q)/\Below w'.heap.size w' wr) (fun i _=>T-(intOf i).toNat)
 case atStart=>
  obtain⟨out,h1,h2,h3,h4⟩:=hrow.out;exact⟨d,out,rfl,hdT,h1,h2,h3,h4,hb2⟩
 case round=>
  obtain⟨m,out,rfl,hm,hB,hol,hfil,hq,hbel⟩:=hrel;have LX:=QQ hol;have HF:=QQ hfil;have HQ:=QQ hq;clear hrow hb2 hol hfil hq;by_cases hlt:m<T
  ·have hm0:=(HQ.out hlt).1
   have i1:(m:Int)<(T:Int):=by omega
   have i3:¬T=m:=by omega
   have hel:(out.take (Nat.min m (T-m))).length=Nat.min m (T-m):=by rw[QT,LX.out];show min (min m (T-m)) T=min m (T-m);omega
   obtain⟨zs,hzs⟩:∃zs,zs=out.take (Nat.min m (T-m)):=⟨_,rfl⟩;rw[<-hzs]at hel;have HEL:=QQ hel;have HZ:=QQ hzs;have hIz:Ints wr (some ⟨w'.heap.size,0,none⟩) zs:=by rw[hzs];exact(j6 hB).take _
   have hle:zs.length<=T-m:=by rw[hel];exact Nat.min_le_right _ _
   clear hel hzs;go_wp2
   go_region_law (refine step_copy_splice rfl (.tmp 41) (.tmp 44) _ _ rfl 3 Tryz.underlying26 LG (some ⟨w'.heap.size,m,none⟩) (some ⟨w'.heap.size,0,none⟩) (T-m) (T-m) m T (by simp[Act.eval,Act.put,i3]) (by simp[Act.eval,Act.put,i3]) w'.heap.size m (out.map (Value.int .i64)) 3 hB (zs.map (Value.int .i64)) (by rw[Zn];exact HEL.out) (fun hp=>⟨rfl,hIz.drew.src (by simpa using hp)⟩) (by rw[Zn,Zn,LX.out];omega) ER w'.heap.size w' hbel.drew (QU _) ?_;intro w4 hg4 hb4)
   all_goals
    have hg:=hg4.out;rw[jA]at hg;have hz:zs=out.take zs.length:=by rw[HEL.out];exact HZ.out
    have hzm:zs.length<=m:=by rw[HEL.out];exact Nat.min_le_left _ _
    have hzT:zs.length=m\/zs.length=T-m:=by rw[HEL.out];show min m (T-m)=m\/min m (T-m)=T-m;omega
    have hlen:(splice out m zs).length=T:=by rw[length_splice _ _ _ (by rw[LX.out];omega)];exact LX.out
    obtain⟨q,hq⟩:=(HQ.out hlt).2;have hfl:Jo xs (splice out m zs) (m+zs.length):=by
     rw[hz];have:=Jo.more (xs:=xs) (q:=q) HF.out (by rw[LX.out];exact hm) hzm (by rw[HN.out];exact hq);have e:(out.take zs.length).length=zs.length:=by rw[<-hz]
     rw[e];exact this
    have H1:=QQ hg;have H2:=QQ hlen;have H3:=QQ hfl;have H4:Hid (m+zs.length<T->0<m+zs.length/\∃q,m+zs.length=n*q):=QQ (fun hl=>⟨by omega,2*q,by rcases hzT with h|h;(·rw[h,hq,<-Nat.two_mul,Nat.mul_left_comm]);(·omega)⟩);have hzp:0<zs.length:=by omega
    clear hg hg4 hz hlen hq hfl hzT;have iw:IntKind.i64.wrap ((m:Int)+(zs.length:Int))=((m+zs.length:Nat):Int):=by rw[Ze];omega
    go_simp;go_roundw
    case rel=>
     exact⟨_,_,_,_,_,_,_,_,_,_,_,_,_,_,⟨m+zs.length,splice out m zs,by go_num,by omega,H1.out,H2.out,H3.out,H4.out,hb4⟩,rfl⟩
    case measure=>simp[intOf];omega
  ·have hmT:m=T:=by omega
   subst hmT;go_wp2;go_ret;refine⟨_,rfl,?_,hbel⟩;have he:out=Vv xs k:=Jo.all (by rw[HN.out,<-HTE.out];exact HF.out) (by rw[HN.out,<-HTE.out];exact LX.out);rw[<-he];have:=jc hB (QU _) (by rw[LX.out];omega)
   rwa[LX.out]at this
theorem QZe{P:Nat}{rg:Int}{vs:List Value}{w w1 w2:World}(hP:P<w.heap.size)(h:(w1.cell? ⟨P,30,none⟩=some (.int .i64 rg)/\w1.rangeAt P 2 vs/\Below w.heap.size w w1))(hb:Below w.heap.size w1 w2):w2.cell? ⟨P,30,none⟩=some (.int .i64 rg)/\w2.rangeAt P 2 vs/\Below w.heap.size w w2:=
 ⟨by rw[hb.cell hP];exact h.1,fun j v hv=>by rw[hb.cell hP];exact h.2.1 j v hv,h.2.2.trans hb⟩
theorem pX{P:Nat}{rg:Int}{vs:List Value}{w w1 w2:World}(hP:P<w.heap.size)(h:(w1.cell? ⟨P,30,none⟩=some (.int .i64 rg)/\w1.rangeAt P 2 vs/\Below w.heap.size w w1))(hb:Below w1.heap.size w1 w2):w2.cell? ⟨P,30,none⟩=some (.int .i64 rg)/\w2.rangeAt P 2 vs/\Below w.heap.size w w2:=
 QZe hP h (hb.mono h.2.2.size)
theorem OY{X:List (List Int)}{rg:Int}(h:WH X rg=0):JO X rg≠[]:=by
 unfold WH JO at *;split at h
 ·omega
 ·rename_i h1
  rw[if_neg h1];unfold NV at h;split at h
  ·omega
  ·assumption
theorem RF{n m N:Nat}(hn:n<=200)(hm:0<m):(200-(n:Int)) / (m:Int)<(N:Int)↔(200:Int)<(n:Int)+(N:Int)*(m:Int):=by
 rw[Int.ediv_lt_iff_lt_mul (by omega)];omega
theorem kT(P i:Nat)(us:List Value)(I:In)(hI:YC I)(s:St)(w:World)(h:DI P w us I s)(hi:i<=I.n)(hc0:0<=s.cm.a)(hc1:s.cm.a<=999):
  Calls Tryz.prog 272 #[.pointer (some ⟨P,0,none⟩),.int .i64 (i:Int)] w (Xc P I (DC I s i).1 (DC I s i).2 w):=by
 have hR:=h.rg hI;have HS:=QQ hI.small;have HI:=QQ hI;have htop:=hI.top;have Jl:=h.Jl;have rr:=h.rr hI;have hlv:=hI.O4.lv;have VF:=h.lt;have HX:=QQ h;have HII:=QQ hi;obtain⟨y,hy⟩:∃y,JO I.X s.cm.b=y:=⟨_,rfl⟩;obtain⟨E,hE⟩:∃E,WH I.X s.cm.b=E:=⟨_,rfl⟩;obtain⟨rg,hrg⟩:∃rg,s.cm.b=rg:=⟨_,rfl⟩;obtain⟨N,hN,hN1,N9⟩:∃N:Nat,max 1 s.cm.a=(N:Int)/\1<=N/\N<=999:=⟨(max 1 s.cm.a).toNat,by omega,by omega,by omega⟩;obtain⟨m,hm⟩:∃m,y.length=m:=⟨_,rfl⟩;have hps:DC I s i=if E≠0 then(E,s)else if 200<(I.n:Int)+(N:Int)*(m:Int)then(2,s)else(0,{Ja I s i i (Vv y N)with p:=(i:Int)+(N:Int)*(m:Int)-1}):=by
  rw[DC,hy,hE,hN,hm];rfl
 rw[hps];have hpos:E=0->0<m:=fun h0=>by
  have:=OY (hE.trans h0);rw[hy]at this;rw[<-hm];exact Zf.2 this
 have GET:∀w1,Below w.heap.size w w1->Calls Tryz.prog 291 #[.agg I.vs.toArray,.int .i64 rg] w1 (zY y E w1):=fun w1 hb=>by
  have:=dW I.vs I.X rg w1 (hR.below hb) HS.out;rw[<-hrg,hy,hE]at this;rw[<-hrg];exact this
 rw[hrg]at Jl;have HG:=QQ GET;have hu:=Yb;have hz:(Tryz.prog.info? 36).map (·.size)=some I.vs.length:=by rw[hlv];exact YU
 obtain⟨vs,hvs⟩:∃vs,I.vs=vs:=⟨_,rfl⟩;rw[hvs]at HG hz rr;have HP:=QQ hpos;have HM:=QQ hm;clear GET hR hy hE hrg hvs hps hpos hI h hi hm;go_enter Tryz.func272,Tryz.ntmps272
 go_upto_region 1 with fail
 go_cut [5,6] (fun v e wx=>∃a5 n5 c5,v=.slice a5 n5 c5/\e=.int .i64 E/\Sl wx (.slice a5 n5 c5) y/\Below w.heap.size w wx)
 case first=>
  go_region_held3 (fun w'=>w'.cell? ⟨P,30,none⟩=some (.int .i64 rg)/\w'.rangeAt P 2 vs/\Below w.heap.size w w') (first|exact⟨Jl,rr,(Qx _ _).drew⟩|assumption|exact pX VF ‹_› ‹_›)
   (first|(go_at_call 291;refine(HG.out _ (Qx _ _).drew).mono ?_;rintro e w8 ⟨v8,rfl,sl8,ZU⟩;have sl9:=sl8;obtain⟨a8,n8,c8,rfl,-,-,-,-,-⟩:=sl9))
  all_goals
   go_wp2;go_meet;exact⟨_,_,_,rfl,rfl,sl8,((Qx _ _).drew).trans ZU⟩
 obtain⟨a5,n5,c5,rfl,rfl,sl5,hb5⟩:=hcut;have h5:=HX.out.to hb5;clear Jl rr hz hu hlv;have c0:=h5.c0;have XY:=h5.XY;obtain⟨g1,g2,g3,g4,g5⟩:=sl5.get;have hn5:n5=m:=by rw[<-g1,HM.out]
 subst hn5;have G4:=QQ g4;have G5:=QQ g5;have H5:=QQ h5;clear g4 g5 sl5 h5 g1;by_cases h0:E=0
 ·have hm0:=HP.out h0
  subst h0;obtain⟨ct,hct⟩:∃ct,s.cm.a=ct:=⟨_,rfl⟩;rw[hct]at XY hN hc0 hc1;have zV:=QQ hct;have J2:=QQ hN;clear hct hN;have nK:=QQ c0;clear c0;go_upto_region 4 with fail
  go_cut [7] (fun v wx=>v=.int .i64 (N:Int)/\wx=wc)
  case first=>
   have h3:ct=0\/ct=1\/2<=ct:=by omega
   rcases h3 with rfl|rfl|h3
   ·obtain rfl:N=1:=by have:=J2.out;omega
    exact Quy
   ·obtain rfl:N=1:=by have:=J2.out;omega
    exact Quy
   ·obtain rfl:ct=(N:Int):=by have:=J2.out;omega
    exact Quy
  obtain⟨rfl,rfl⟩:=hcut;have c0:=nK.out;clear XY hc0 hc1;by_cases hbig:(200:Int)<(I.n:Int)+(N:Int)*(n5:Int)
  ·have hq:=(RF htop hm0 (N:=N)).2 hbig
   have HB:=QQ hbig;clear hbig;go_wp2;go_ret;exact⟨rfl,⟨_,by first|exact H5.out|(rw[if_pos HB.out];exact H5.out)⟩,Z6.of hb5⟩
  ·have hq:(N:Int)<=(200-(I.n:Int)) / (n5:Int):=Int.not_lt.1 fun hx=>hbig ((RF htop hm0 (N:=N)).1 hx)
   obtain⟨M,hM⟩:∃M,N*n5=M:=⟨_,rfl⟩;have hmul:(N:Int)*(n5:Int)=(M:Int):=by rw[<-hM];push_cast;rfl
   have hM2:M<=200:=by rw[hmul]at hbig;omega
   have hM3:n5<=M:=by rw[<-hM];exact Nat.le_mul_of_pos_left _ (by omega)
   have iw1:IntKind.i64.wrap ((N:Int)*(n5:Int))=(M:Int):=by rw[hmul,Ze];omega
   have hi2:i<=200:=by have:=HII.out;omega
   have HB:=QQ hbig;have HMU:=QQ hmul;have HRL:=QQ (show(Vv y N).length=M by rw[VO,HM.out,Nat.mul_comm];exact hM);clear hbig hmul hM;go_wp2_with (first|(go_at_call 63;refine(Uk _ _ _ _ y _ G4.out HM.out (by omega) (by omega)).mono ?_;rintro e w6 ⟨v6,rfl,o6,hb6⟩;obtain⟨a6,n6,c6,rfl⟩:=o6.form;have O6:=QQ o6;clear o6)|(go_at_call 278;go_loud (refine(Ug P i i us I HI.out s _ _ _ (Vv y N) _ (H5.out.to hb6) O6.out.get.2.1 O6.out.get.1 (by have:=O6.out.get.1;rw[HRL.out]at this;omega) O6.out.sl.get.2.2.2.2 (QU _) HII.out).mono ?_;rintro e w7 ⟨rfl,⟨us7,h7⟩,xX⟩;have qW:=h7.qW;have f35:=h7.free 35;have H7:=QQ h7;clear h7)))
   all_goals
    go_ret
    first
     | exact absurd (show(200:Int)<(I.n:Int)+(N:Int)*(n5:Int) by assumption) (by have:=HB.out;omega)
     | exact⟨rfl,⟨_,by rw[HMU.out];exact H7.out.Jb _⟩,(((Z6.of hb5).trans (Z6.of hb6)).trans xX).trans (Z6.set _)⟩
 ·have n0:(E !=0)=true:=by simpa using h0
  have HE:=QQ h0;clear h0;go_wp2;go_ret;exact⟨rfl,⟨_,by first|exact H5.out|(rw[if_pos HE.out];exact H5.out)⟩,Z6.of hb5⟩
end Go.Proofs.YtmdcencmiopmmaaGreat

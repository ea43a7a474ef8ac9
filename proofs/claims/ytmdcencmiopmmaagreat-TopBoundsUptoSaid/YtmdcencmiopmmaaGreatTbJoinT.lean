/- LiftTopBounds: ends of proofs that stand more than once, each a theorem whose hypothesis its own tactics prove. -/
import Derived.WalkKit
import Derived.WalkSpells
import Derived.WalkLawsBesides
import Derived.Lib.Hide
import Derived.Below
import Derived.Deep.QuietTactic
import Derived.BigQuiet
import Derived.Handy
import Derived.Lib.SliceRun
import Derived.Deep.OwnRows
import Derived.Deep.MidRow
import Derived.Laws.Rows
import Derived.Deep.DeepCutAuto
import Derived.Deep.CutBlock
import Derived.Lib.AppendZeros
import Derived.Deep.RegionHeld3
import Derived.Deep.RegionLaw
import Derived.Deep.AppendLies
import Derived.Maps.Own
import Derived.Maps.Views
import Derived.Maps.OwnOps
import Derived.Maps.AppendAt
import Derived.Lib.ConvBytes
import Derived.Deep.Light
import Derived.Deep.LoopGhost
import Derived.Laws.CopyOwn
import Derived.Shelf.Bits.Mul64
import Derived.Lib.Bits
import Derived.Lib.QuoteBits
import Derived.Laws.BytesString
import Derived.Laws.Runes
import Derived.Laws.IdiomStrings
import Derived.Lib.RuneBytes
import Derived.Laws.Cover4
import Derived.Laws.RangeAny
import Derived.ProofKit
import Derived.OpenShut
import Derived.SliceStrings
import Derived.JoinedCond
import Derived.SizedLaws
set_option linter.unusedVariables false
set_option linter.unusedSimpArgs false
set_option maxRecDepth 100000
set_option maxHeartbeats 12000000
namespace Go.Proofs.YtmdcencmiopmmaaGreat
open Go.RowKit
theorem QQ{p:Prop}(h:p):Hid p:=h
theorem QZ:type_of% @List.setIfInBounds_toArray:=@List.setIfInBounds_toArray
theorem QX:type_of% @List.set_cons_zero:=@List.set_cons_zero
theorem QY:type_of% @List.set_cons_succ:=@List.set_cons_succ
theorem QJ:type_of% @World.size_alloc:=@World.size_alloc
theorem QK:type_of% @Nat.le_succ:=@Nat.le_succ
theorem QU:type_of% @Nat.le_refl:=@Nat.le_refl
theorem QV:type_of% @bodyPost_ret:=@bodyPost_ret
theorem Qq:type_of% @Nat.lt_succ_self:=@Nat.lt_succ_self
theorem Qz:type_of% @decide_eq_false_iff_not:=@decide_eq_false_iff_not
theorem Qx:type_of% @Below.refl:=@Below.refl
theorem Qy:type_of% @List.contains_eq_mem:=@List.contains_eq_mem
theorem Qj:type_of% @List.not_mem_nil:=@List.not_mem_nil
theorem Qv:type_of% @Option.some.injEq:=@Option.some.injEq
theorem QA:type_of% @AllReadyH.cons:=@AllReadyH.cons
theorem QB:type_of% @List.mem_cons:=@List.mem_cons
theorem QE:type_of% @List.length_append:=@List.length_append
theorem QG:type_of% @Nat.lt_of_lt_of_le:=@Nat.lt_of_lt_of_le
theorem QH:type_of% @List.eq_nil_of_length_eq_zero:=@List.eq_nil_of_length_eq_zero
theorem QI:type_of% @AllReadyH.nil:=@AllReadyH.nil
theorem QL:type_of% @Nat.le_trans:=@Nat.le_trans
theorem QN:type_of% @List.getD_eq_getElem?_getD:=@List.getD_eq_getElem?_getD
theorem QO:type_of% @wpAnyH_ready:=@wpAnyH_ready
theorem QP:type_of% @Below.heap_setCell:=@Below.heap_setCell
theorem QT:type_of% @List.length_take:=@List.length_take
theorem Qb:type_of% @Bool.false_eq_true:=@Bool.false_eq_true
theorem Qd:type_of% @Classical.byContradiction:=@Classical.byContradiction
theorem Qe:type_of% @Nat.zero_le:=@Nat.zero_le
theorem Qg:type_of% @Int.eq_ofNat_of_zero_le:=@Int.eq_ofNat_of_zero_le
theorem Qi:type_of% @Nat.lt_or_ge:=@Nat.lt_or_ge
theorem Qn:type_of% @beq_eq_false_iff_ne:=@beq_eq_false_iff_ne
theorem Qo:type_of% @List.take_succ_eq_append_getElem:=@List.take_succ_eq_append_getElem
theorem Qp:type_of% @Nat.lt_succ_iff_lt_or_eq:=@Nat.lt_succ_iff_lt_or_eq
theorem Qr:type_of% @List.getElem?_eq_getElem:=@List.getElem?_eq_getElem
theorem Qs:type_of% @Int.toNat_natCast:=@Int.toNat_natCast
theorem Q5:type_of% @List.take_of_length_le:=@List.take_of_length_le
theorem Q6:type_of% @List.getElem?_append_right:=@List.getElem?_append_right
theorem Q7:type_of% @List.length_drop:=@List.length_drop
theorem Q8:type_of% @World.size_drew:=@World.size_drew
theorem Qw:type_of% @Value.slice.injEq:=@Value.slice.injEq
theorem ZJ:type_of% @Nat.lt_trichotomy:=@Nat.lt_trichotomy
theorem ZK:type_of% @List.length_cons:=@List.length_cons
theorem ZW:type_of% @World.ownsRow.lt:=@World.ownsRow.lt
theorem Zq:type_of% @decide_eq_true_eq:=@decide_eq_true_eq
theorem Zz:type_of% @List.mem_append:=@List.mem_append
theorem Zx:type_of% @Nat.eq_zero_or_pos:=@Nat.eq_zero_or_pos
theorem Zy:type_of% @And.right:=@And.right
theorem Zu:type_of% @Nat.zero_add:=@Nat.zero_add
theorem ZF:type_of% @info_parts:=@info_parts
theorem ZG:type_of% @Nat.le_add_right:=@Nat.le_add_right
theorem ZM:type_of% @if_false:=@if_false
theorem ZN:type_of% @List.mem_of_getElem?:=@List.mem_of_getElem?
theorem ZO:type_of% @World.cell?_setCell_other:=@World.cell?_setCell_other
theorem ZP:type_of% @List.getElem?_append_left:=@List.getElem?_append_left
theorem ZR:type_of% @Nat.le_of_lt:=@Nat.le_of_lt
theorem Ze:type_of% @IntKind.wrap_i64:=@IntKind.wrap_i64
theorem Zf:type_of% @List.length_pos_iff:=@List.length_pos_iff
theorem Zi:type_of% @List.mem_iff_getElem:=@List.mem_iff_getElem
theorem Zl:type_of% @IntWalk.i64_in:=@IntWalk.i64_in
theorem Zm:type_of% @List.length_set:=@List.length_set
theorem Zn:type_of% @List.length_map:=@List.length_map
theorem Zp:type_of% @Nat.add_zero:=@Nat.add_zero
theorem Zr:type_of% @Int.lt_or_le:=@Int.lt_or_le
theorem XQ:type_of% @congrArg:=@congrArg
theorem Xz:type_of% @Addr.mk.injEq:=@Addr.mk.injEq
theorem Xv:type_of% @World.ownsRow_nil:=@World.ownsRow_nil
theorem XC:type_of% @Nat.min_eq_left:=@Nat.min_eq_left
theorem XF:type_of% @List.getElem_mem:=@List.getElem_mem
theorem XO:type_of% @wpAnyH_done:=@wpAnyH_done
theorem XP:type_of% @run_underlying:=@run_underlying
theorem XT:type_of% @Result.andThen_ok:=@Result.andThen_ok
theorem Xd:type_of% @all_oneCell_toArray:=@all_oneCell_toArray
theorem Xr:type_of% @List.length_replicate:=@List.length_replicate
theorem YQ:type_of% @Prod.mk.injEq:=@Prod.mk.injEq
theorem QF{P:Program}{ops:Array Oper}{Q:Exit->Act->World->Prop}{md:Region.Mode}{S:World->Prop}(i:Nat)(oi:Oper)(v:Value){fuel:Nat}{listed:Array Bool}{a:Act}{w:World}(h:wpAnyH P md ops Q S fuel (listed.setIfInBounds i true) (a.put oi.dst v) w)(hi:ops[i]? =some oi:=by rfl)(hs:Region.noSelect ops=true:=by kernel_rfl)(hf:Region.free md ops listed i=true:=by kernel_rfl)(hr:(Region.ready md ops listed).contains i=true:=by kernel_rfl)(hQ:∀c a w,Q (.panic c) (a.put oi.dst v) w->Q (.panic c) a w:=by exact fun _ _ _ h=>h)(hy:YieldsIf P ops S oi v a:=by exact Or.inl ⟨by rfl,fun w hSw=>by(dsimp only at hSw;go_simp)⟩)(hS:S w:=by assumption):wpAnyH P md ops Q S (fuel+1) listed a w:=wpAnyH_take hi hs hf hr hQ hy hS h
theorem QjO{p:Prop}(h:p:=by
 have h3:ct=0\/ct=1\/2<=ct:=by omega
 rcases h3 with rfl|rfl|h3
 ·obtain rfl:N=1:=by have:=J2.out;omega
  go_region_held3 (fun w'=>w'.cell? ⟨P,0,none⟩=some (.slice I.a I.n I.c)/\w'.cell? ⟨P,29,none⟩=some (.int .i64 0)/\w'.cell? ⟨w.heap.size,0,none⟩=some (.pointer (some ⟨P,0,none⟩))) (first|exact⟨c0,XY,e0⟩|assumption) (fail)
  all_goals
   go_wp2;go_meet;exact⟨rfl,rfl,rfl⟩
 ·obtain rfl:N=1:=by have:=J2.out;omega
  go_region_held3 (fun w'=>w'.cell? ⟨P,0,none⟩=some (.slice I.a I.n I.c)/\w'.cell? ⟨P,29,none⟩=some (.int .i64 1)/\w'.cell? ⟨w.heap.size,0,none⟩=some (.pointer (some ⟨P,0,none⟩))) (first|exact⟨c0,XY,e0⟩|assumption) (fail)
  all_goals
   go_wp2;go_meet;exact⟨rfl,rfl,rfl⟩
 ·obtain rfl:ct=(N:Int):=by have:=J2.out;omega
  go_region_held3 (fun w'=>w'.cell? ⟨P,0,none⟩=some (.slice I.a I.n I.c)/\w'.cell? ⟨P,29,none⟩=some (.int .i64 (N:Int))/\w'.cell? ⟨w.heap.size,0,none⟩=some (.pointer (some ⟨P,0,none⟩))) (first|exact⟨c0,XY,e0⟩|assumption) (fail)
  all_goals
   go_wp2;go_meet;exact⟨rfl,rfl,rfl⟩):p:=h
theorem QjP{p:Prop}(h:p:=by
 clear hK K;refine QO (rs:=[22]) (by kernel_rfl) (by simp) ?_;refine QA (o:=⟨some 153,_,_,_,_,_⟩) rfl (fun K hK=>?_) ?_
 ·go_simp
  refine(X3 J8 J8 4 (some ⟨bb1,UI,none⟩) n cb hi pb B _ _ ((xI.out.Xn (Y1 ‹_›)).imp (fun q hq=>QG hq YH)) Er (by omega) hpb hn (by decide)).mono ?_;rintro e V8 ⟨rfl,Cn,U9,eH⟩;have Wp:=XN ‹_› Z5 Z4 U9 YH;have l11:=(Zh U9 (p:=⟨J4,2,none⟩) xZ).trans l10;have b11:=b10.trans (U9.mono yM);obtain⟨dQ,yX,Wm,MW,fQ⟩:=Cn;obtain⟨-,-,k11,-⟩:=yX.three;obtain⟨Yi,Yg,Yh,rfl⟩:=Wm.form;dsimp only;refine hK.out _ _ Wp (fun hHeld=>?_);clear hK K;refine QF 23 ⟨some 154,.nilCheck (.tmp 153),_,_,_,_⟩ ((.pointer (some ⟨J8,0,none⟩))) ?_;simp only[Act.put,QZ,QX,QY];refine QF 24 ⟨some 155,.fieldAddr 228 (.tmp 154) 2,_,_,_,_⟩ ((.pointer (some ⟨J8,2,none⟩))) ?_;simp only[Act.put,QZ,QX,QY];refine QO (rs:=[25]) (by kernel_rfl) (by simp) ?_;refine QA (o:=⟨some 156,.load 26 (.tmp 155),_,_,_,_⟩) rfl (fun K hK=>?_) ?_
  ·go_simp
   refine hK.out _ _ (by assumption) (fun hHeld=>?_);clear hK K;refine QO (rs:=[26]) (by kernel_rfl) (by simp) ?_;refine QA (o:=⟨some 157,_,_,_,_,_⟩) rfl (fun K hK=>?_) ?_
   ·go_simp
    refine hK.out _ _ (XN ‹_› Z5 Z4 (QC _ _) (AY ‹_›)) (fun hHeld=>?_);clear hK K;refine QO (rs:=[27]) (by kernel_rfl) (by simp) ?_;refine QA (o:=⟨some 22,.assign (.tmp 157),_,_,_,_⟩) rfl (fun K hK=>?_) ?_
    ·go_simp
     refine hK.out _ _ (by assumption) (fun hHeld=>?_);clear hK K;refine XO (by kernel_rfl) ?_ _;have hbW:Below V4.heap.size V4 V8:=Y1 Wp;have RH:=ed.sl.below b11;have RG:=Wm.sl;go_wp2;go_meet;change∃us,Vs (V8.alloc (.cells #[.slice qJ qX qY,.slice Yi Yg Yh] 26)) (.slice (some ⟨V8.heap.size,0,none⟩) 2 2) us/\Lists (V8.alloc (.cells #[.slice qJ qX qY,.slice Yi Yg Yh] 26)) us _/\Below V4.heap.size V4 (V8.alloc (.cells #[.slice qJ qX qY,.slice Yi Yg Yh] 26));exact⟨[.slice qJ qX qY,.slice Yi Yg Yh],⟨_,2,2,rfl,rfl,by decide,by decide,YJ _ [.slice qJ qX qY,.slice Yi Yg Yh] _,fun h=>by simp at h⟩,(Lists.one (RH.below (QC _ _))).append (Lists.one (RG.below (QC _ _))),hbW.alloc hbW.size _⟩
    exact QI
   exact QI
  exact QI
 exact QI):p:=h
theorem QjR{p:Prop}(h:p:=by
 clear HI;by_cases h0:c.c=0
 ·have z0:(c.c==0)=true:=by simpa using h0
  have CS:=fun w=>Ji c w
  have e1:=zR h0;obtain⟨c',hc'⟩:∃c',M8 c=c':=⟨_,rfl⟩;rw[hc']at CS e1;have hS:∀(w:World),Calls Tryz.prog 247 #[.agg #[.int .i64 c.a,.int .i64 c.b,.int .i64 c.c,.int .i64 c.d,.int .i64 c.e]] w (fun e w'=>e=.returned (.tuple #[.agg #[.int .i64 c'.a,.int .i64 c'.b,.int .i64 c'.c,.int .i64 c'.d,.int .i64 c'.e],.bool (WB c.d).isSome])/\Below w.heap.size w w'):=fun w=>by
   have:=CS w;unfold C5.v at this;exact this
  have hno:WB c.d=none->c'=c:=fun hn=>by rw[<-e1];exact zT h0 hn
  have HS:=QQ hS;have zX:=QQ e1;have Yr:=QQ hno;clear CS hS e1 hc' hno h0;rcases hk:WB c.d with _|pq
  ·rw[hk]at HS
   have SH:(none:Option (Int×Int)).isSome=false:=rfl;have HK:=QQ hk;clear hk;go_wp2_with (go_at_call 247;refine(HS.out _).mono ?_;rintro e w8 ⟨rfl,ZU⟩;have Vu:=QQ ZU;clear ZU)
   go_meet;exact⟨rfl,⟨us,by have e:cm=s.cm:=by {rw[<-HL.out,zX.out,Yr.out HK.out,<-HC.out]};rw[e];exact(HX.out.to Vu.out).alloc _⟩,(Z6.of Vu.out).trans (Z6.of (QC _ _))⟩
  ·rw[hk]at HS
   have SH:(some pq:Option (Int×Int)).isSome=true:=rfl;clear hk;go_wp2_with (go_at_call 247;refine(HS.out _).mono ?_;rintro e w8 ⟨rfl,ZU⟩;have Xp:=HX.out.to ZU;have g29:=Xp.XY;have g30:=Xp.Jl;have g31:=Xp.c31;have g32:=Xp.c32;have g33:=Xp.JA;have k29:=Xp.free 29;have lM:=Xp.free 30;have lL:=Xp.free 31;have k32:=Xp.free 32;have k33:=Xp.free 33;have Hr:=Xp.lt;have MH:=QQ Xp;have Vu:=QQ ZU;clear ZU Xp)
   go_meet;exact⟨rfl,⟨_,by have e:cm=c':=HL.out.symm.trans zX.out;rw[e];exact(MH.out.zu c').alloc _⟩,((Z6.of Vu.out).trans (Z6.setCells c'.cells)).trans (Z6.of (QC _ _))⟩
 ·have n0:(c.c==0)=false:=by simpa using h0
  have e1:=zS h0;have zX:=QQ e1;clear h0 e1;go_wp2;go_meet;exact⟨rfl,⟨us,by have:=HX.out;rw[<-HL.out,zX.out,<-HC.out];exact this⟩,Z6.refl _ _⟩):p:=h
theorem QjS{p:Prop}(h:p:=by
 refine(X3 J8 J8 4 (some ⟨bb1,UI,none⟩) n cb hi pb B _ _ ((xI.out.Xn (Y1 ‹_›)).imp (fun q hq=>QG hq YH)) Er (by omega) hpb hn (by decide)).mono ?_;rintro e V8 ⟨rfl,Cn,U9,eH⟩;have Wp:=XN ‹_› Z5 Z4 U9 YH;have l11:=(Zh U9 (p:=⟨J4,2,none⟩) xZ).trans l10;have b11:=b10.trans (U9.mono yM);obtain⟨dQ,yX,Wm,MW,fQ⟩:=Cn;obtain⟨-,-,k11,-⟩:=yX.three;obtain⟨Yi,Yg,Yh,rfl⟩:=Wm.form;dsimp only;refine hK.out _ _ Wp (fun hHeld=>?_);clear hK K;refine QF 23 ⟨some 154,.nilCheck (.tmp 153),_,_,_,_⟩ ((.pointer (some ⟨J8,0,none⟩))) ?_;simp only[Act.put,QZ,QX,QY];refine QF 24 ⟨some 155,.fieldAddr 228 (.tmp 154) 2,_,_,_,_⟩ ((.pointer (some ⟨J8,2,none⟩))) ?_;simp only[Act.put,QZ,QX,QY];refine QO (rs:=[25]) (by kernel_rfl) (by simp) ?_;refine QA (o:=⟨some 156,.load 26 (.tmp 155),_,_,_,_⟩) rfl (fun K hK=>?_) ?_
 ·go_simp
  refine hK.out _ _ (by assumption) (fun hHeld=>?_);clear hK K;refine QO (rs:=[26]) (by kernel_rfl) (by simp) ?_;refine QA (o:=⟨some 157,_,_,_,_,_⟩) rfl (fun K hK=>?_) ?_
  ·go_simp
   refine hK.out _ _ (XN ‹_› Z5 Z4 (QC _ _) (AY ‹_›)) (fun hHeld=>?_);clear hK K;refine QO (rs:=[27]) (by kernel_rfl) (by simp) ?_;refine QA (o:=⟨some 22,.assign (.tmp 157),_,_,_,_⟩) rfl (fun K hK=>?_) ?_
   ·go_simp
    refine hK.out _ _ (by assumption) (fun hHeld=>?_);clear hK K;refine XO (by kernel_rfl) ?_ _;have hbW:Below V4.heap.size V4 V8:=Y1 Wp;have RH:=ed.sl.below b11;have RG:=Wm.sl;go_wp2;go_meet;change∃us,Vs (V8.alloc (.cells #[.slice qJ qX qY,.slice Yi Yg Yh] 26)) (.slice (some ⟨V8.heap.size,0,none⟩) 2 2) us/\Lists (V8.alloc (.cells #[.slice qJ qX qY,.slice Yi Yg Yh] 26)) us _/\Below V4.heap.size V4 (V8.alloc (.cells #[.slice qJ qX qY,.slice Yi Yg Yh] 26));exact⟨[.slice qJ qX qY,.slice Yi Yg Yh],⟨_,2,2,rfl,rfl,by decide,by decide,YJ _ [.slice qJ qX qY,.slice Yi Yg Yh] _,fun h=>by simp at h⟩,(Lists.one (RH.below (QC _ _))).append (Lists.one (RG.below (QC _ _))),hbW.alloc hbW.size _⟩
   exact QI
  exact QI
 exact QI):p:=h
theorem QjT{p:Prop}(h:p:=by
 rintro e V8 ⟨rfl,Cn,U9,eH⟩;have Wp:=XN ‹_› Z5 Z4 U9 YH;have l11:=(Zh U9 (p:=⟨J4,2,none⟩) xZ).trans l10;have b11:=b10.trans (U9.mono yM);obtain⟨dQ,yX,Wm,MW,fQ⟩:=Cn;obtain⟨-,-,k11,-⟩:=yX.three;obtain⟨Yi,Yg,Yh,rfl⟩:=Wm.form;dsimp only;refine hK.out _ _ Wp (fun hHeld=>?_);clear hK K;refine QF 23 ⟨some 154,.nilCheck (.tmp 153),_,_,_,_⟩ ((.pointer (some ⟨J8,0,none⟩))) ?_;simp only[Act.put,QZ,QX,QY];refine QF 24 ⟨some 155,.fieldAddr 228 (.tmp 154) 2,_,_,_,_⟩ ((.pointer (some ⟨J8,2,none⟩))) ?_;simp only[Act.put,QZ,QX,QY];refine QO (rs:=[25]) (by kernel_rfl) (by simp) ?_;refine QA (o:=⟨some 156,.load 26 (.tmp 155),_,_,_,_⟩) rfl (fun K hK=>?_) ?_
 ·go_simp
  refine hK.out _ _ (by assumption) (fun hHeld=>?_);clear hK K;refine QO (rs:=[26]) (by kernel_rfl) (by simp) ?_;refine QA (o:=⟨some 157,_,_,_,_,_⟩) rfl (fun K hK=>?_) ?_
  ·go_simp
   refine hK.out _ _ (XN ‹_› Z5 Z4 (QC _ _) (AY ‹_›)) (fun hHeld=>?_);clear hK K;refine QO (rs:=[27]) (by kernel_rfl) (by simp) ?_;refine QA (o:=⟨some 22,.assign (.tmp 157),_,_,_,_⟩) rfl (fun K hK=>?_) ?_
   ·go_simp
    refine hK.out _ _ (by assumption) (fun hHeld=>?_);clear hK K;refine XO (by kernel_rfl) ?_ _;have hbW:Below V4.heap.size V4 V8:=Y1 Wp;have RH:=ed.sl.below b11;have RG:=Wm.sl;go_wp2;go_meet;change∃us,Vs (V8.alloc (.cells #[.slice qJ qX qY,.slice Yi Yg Yh] 26)) (.slice (some ⟨V8.heap.size,0,none⟩) 2 2) us/\Lists (V8.alloc (.cells #[.slice qJ qX qY,.slice Yi Yg Yh] 26)) us _/\Below V4.heap.size V4 (V8.alloc (.cells #[.slice qJ qX qY,.slice Yi Yg Yh] 26));exact⟨[.slice qJ qX qY,.slice Yi Yg Yh],⟨_,2,2,rfl,rfl,by decide,by decide,YJ _ [.slice qJ qX qY,.slice Yi Yg Yh] _,fun h=>by simp at h⟩,(Lists.one (RH.below (QC _ _))).append (Lists.one (RG.below (QC _ _))),hbW.alloc hbW.size _⟩
   exact QI
  exact QI
 exact QI):p:=h
theorem Qja{p:Prop}(h:p:=by
 have Wp:=XN ‹_› Z5 Z4 U9 YH;have l11:=(Zh U9 (p:=⟨J4,2,none⟩) xZ).trans l10;have b11:=b10.trans (U9.mono yM);obtain⟨dQ,yX,Wm,MW,fQ⟩:=Cn;obtain⟨-,-,k11,-⟩:=yX.three;obtain⟨Yi,Yg,Yh,rfl⟩:=Wm.form;dsimp only;refine hK.out _ _ Wp (fun hHeld=>?_);clear hK K;refine QF 23 ⟨some 154,.nilCheck (.tmp 153),_,_,_,_⟩ ((.pointer (some ⟨J8,0,none⟩))) ?_;simp only[Act.put,QZ,QX,QY];refine QF 24 ⟨some 155,.fieldAddr 228 (.tmp 154) 2,_,_,_,_⟩ ((.pointer (some ⟨J8,2,none⟩))) ?_;simp only[Act.put,QZ,QX,QY];refine QO (rs:=[25]) (by kernel_rfl) (by simp) ?_;refine QA (o:=⟨some 156,.load 26 (.tmp 155),_,_,_,_⟩) rfl (fun K hK=>?_) ?_
 ·go_simp
  refine hK.out _ _ (by assumption) (fun hHeld=>?_);clear hK K;refine QO (rs:=[26]) (by kernel_rfl) (by simp) ?_;refine QA (o:=⟨some 157,_,_,_,_,_⟩) rfl (fun K hK=>?_) ?_
  ·go_simp
   refine hK.out _ _ (XN ‹_› Z5 Z4 (QC _ _) (AY ‹_›)) (fun hHeld=>?_);clear hK K;refine QO (rs:=[27]) (by kernel_rfl) (by simp) ?_;refine QA (o:=⟨some 22,.assign (.tmp 157),_,_,_,_⟩) rfl (fun K hK=>?_) ?_
   ·go_simp
    refine hK.out _ _ (by assumption) (fun hHeld=>?_);clear hK K;refine XO (by kernel_rfl) ?_ _;have hbW:Below V4.heap.size V4 V8:=Y1 Wp;have RH:=ed.sl.below b11;have RG:=Wm.sl;go_wp2;go_meet;change∃us,Vs (V8.alloc (.cells #[.slice qJ qX qY,.slice Yi Yg Yh] 26)) (.slice (some ⟨V8.heap.size,0,none⟩) 2 2) us/\Lists (V8.alloc (.cells #[.slice qJ qX qY,.slice Yi Yg Yh] 26)) us _/\Below V4.heap.size V4 (V8.alloc (.cells #[.slice qJ qX qY,.slice Yi Yg Yh] 26));exact⟨[.slice qJ qX qY,.slice Yi Yg Yh],⟨_,2,2,rfl,rfl,by decide,by decide,YJ _ [.slice qJ qX qY,.slice Yi Yg Yh] _,fun h=>by simp at h⟩,(Lists.one (RH.below (QC _ _))).append (Lists.one (RG.below (QC _ _))),hbW.alloc hbW.size _⟩
   exact QI
  exact QI
 exact QI):p:=h
theorem Qjb{p:Prop}(h:p:=by
 have l11:=(Zh U9 (p:=⟨J4,2,none⟩) xZ).trans l10;have b11:=b10.trans (U9.mono yM);obtain⟨dQ,yX,Wm,MW,fQ⟩:=Cn;obtain⟨-,-,k11,-⟩:=yX.three;obtain⟨Yi,Yg,Yh,rfl⟩:=Wm.form;dsimp only;refine hK.out _ _ Wp (fun hHeld=>?_);clear hK K;refine QF 23 ⟨some 154,.nilCheck (.tmp 153),_,_,_,_⟩ ((.pointer (some ⟨J8,0,none⟩))) ?_;simp only[Act.put,QZ,QX,QY];refine QF 24 ⟨some 155,.fieldAddr 228 (.tmp 154) 2,_,_,_,_⟩ ((.pointer (some ⟨J8,2,none⟩))) ?_;simp only[Act.put,QZ,QX,QY];refine QO (rs:=[25]) (by kernel_rfl) (by simp) ?_;refine QA (o:=⟨some 156,.load 26 (.tmp 155),_,_,_,_⟩) rfl (fun K hK=>?_) ?_
 ·go_simp
  refine hK.out _ _ (by assumption) (fun hHeld=>?_);clear hK K;refine QO (rs:=[26]) (by kernel_rfl) (by simp) ?_;refine QA (o:=⟨some 157,_,_,_,_,_⟩) rfl (fun K hK=>?_) ?_
  ·go_simp
   refine hK.out _ _ (XN ‹_› Z5 Z4 (QC _ _) (AY ‹_›)) (fun hHeld=>?_);clear hK K;refine QO (rs:=[27]) (by kernel_rfl) (by simp) ?_;refine QA (o:=⟨some 22,.assign (.tmp 157),_,_,_,_⟩) rfl (fun K hK=>?_) ?_
   ·go_simp
    refine hK.out _ _ (by assumption) (fun hHeld=>?_);clear hK K;refine XO (by kernel_rfl) ?_ _;have hbW:Below V4.heap.size V4 V8:=Y1 Wp;have RH:=ed.sl.below b11;have RG:=Wm.sl;go_wp2;go_meet;change∃us,Vs (V8.alloc (.cells #[.slice qJ qX qY,.slice Yi Yg Yh] 26)) (.slice (some ⟨V8.heap.size,0,none⟩) 2 2) us/\Lists (V8.alloc (.cells #[.slice qJ qX qY,.slice Yi Yg Yh] 26)) us _/\Below V4.heap.size V4 (V8.alloc (.cells #[.slice qJ qX qY,.slice Yi Yg Yh] 26));exact⟨[.slice qJ qX qY,.slice Yi Yg Yh],⟨_,2,2,rfl,rfl,by decide,by decide,YJ _ [.slice qJ qX qY,.slice Yi Yg Yh] _,fun h=>by simp at h⟩,(Lists.one (RH.below (QC _ _))).append (Lists.one (RG.below (QC _ _))),hbW.alloc hbW.size _⟩
   exact QI
  exact QI
 exact QI):p:=h
theorem Qjc{p:Prop}(h:p:=by
 refine hK.out _ _ (by assumption) (fun hHeld=>?_);clear hK K;refine QO (rs:=[26]) (by kernel_rfl) (by simp) ?_;refine QA (o:=⟨some 157,_,_,_,_,_⟩) rfl (fun K hK=>?_) ?_
 ·go_simp
  refine hK.out _ _ (XN ‹_› Z5 Z4 (QC _ _) (AY ‹_›)) (fun hHeld=>?_);clear hK K;refine QO (rs:=[27]) (by kernel_rfl) (by simp) ?_;refine QA (o:=⟨some 22,.assign (.tmp 157),_,_,_,_⟩) rfl (fun K hK=>?_) ?_
  ·go_simp
   refine hK.out _ _ (by assumption) (fun hHeld=>?_);clear hK K;refine XO (by kernel_rfl) ?_ _;have hbW:Below V4.heap.size V4 V8:=Y1 Wp;have RH:=ed.sl.below b11;have RG:=Wm.sl;go_wp2;go_meet;change∃us,Vs (V8.alloc (.cells #[.slice qJ qX qY,.slice Yi Yg Yh] 26)) (.slice (some ⟨V8.heap.size,0,none⟩) 2 2) us/\Lists (V8.alloc (.cells #[.slice qJ qX qY,.slice Yi Yg Yh] 26)) us _/\Below V4.heap.size V4 (V8.alloc (.cells #[.slice qJ qX qY,.slice Yi Yg Yh] 26));exact⟨[.slice qJ qX qY,.slice Yi Yg Yh],⟨_,2,2,rfl,rfl,by decide,by decide,YJ _ [.slice qJ qX qY,.slice Yi Yg Yh] _,fun h=>by simp at h⟩,(Lists.one (RH.below (QC _ _))).append (Lists.one (RG.below (QC _ _))),hbW.alloc hbW.size _⟩
  exact QI
 exact QI):p:=h
theorem Qjd{p:Prop}(h:p:=by
 have CS:=fun w=>Ji c w
 have e1:=zR h0;obtain⟨c',hc'⟩:∃c',M8 c=c':=⟨_,rfl⟩;rw[hc']at CS e1;have hS:∀(w:World),Calls Tryz.prog 247 #[.agg #[.int .i64 c.a,.int .i64 c.b,.int .i64 c.c,.int .i64 c.d,.int .i64 c.e]] w (fun e w'=>e=.returned (.tuple #[.agg #[.int .i64 c'.a,.int .i64 c'.b,.int .i64 c'.c,.int .i64 c'.d,.int .i64 c'.e],.bool (WB c.d).isSome])/\Below w.heap.size w w'):=fun w=>by
  have:=CS w;unfold C5.v at this;exact this
 have hno:WB c.d=none->c'=c:=fun hn=>by rw[<-e1];exact zT h0 hn
 have HS:=QQ hS;have zX:=QQ e1;have Yr:=QQ hno;clear CS hS e1 hc' hno h0;rcases hk:WB c.d with _|pq
 ·rw[hk]at HS
  have SH:(none:Option (Int×Int)).isSome=false:=rfl;have HK:=QQ hk;clear hk;go_wp2_with (go_at_call 247;refine(HS.out _).mono ?_;rintro e w8 ⟨rfl,ZU⟩;have Vu:=QQ ZU;clear ZU)
  go_meet;exact⟨rfl,⟨us,by have e:cm=s.cm:=by {rw[<-HL.out,zX.out,Yr.out HK.out,<-HC.out]};rw[e];exact(HX.out.to Vu.out).alloc _⟩,(Z6.of Vu.out).trans (Z6.of (QC _ _))⟩
 ·rw[hk]at HS
  have SH:(some pq:Option (Int×Int)).isSome=true:=rfl;clear hk;go_wp2_with (go_at_call 247;refine(HS.out _).mono ?_;rintro e w8 ⟨rfl,ZU⟩;have Xp:=HX.out.to ZU;have g29:=Xp.XY;have g30:=Xp.Jl;have g31:=Xp.c31;have g32:=Xp.c32;have g33:=Xp.JA;have k29:=Xp.free 29;have lM:=Xp.free 30;have lL:=Xp.free 31;have k32:=Xp.free 32;have k33:=Xp.free 33;have Hr:=Xp.lt;have MH:=QQ Xp;have Vu:=QQ ZU;clear ZU Xp)
  go_meet;exact⟨rfl,⟨_,by have e:cm=c':=HL.out.symm.trans zX.out;rw[e];exact(MH.out.zu c').alloc _⟩,((Z6.of Vu.out).trans (Z6.setCells c'.cells)).trans (Z6.of (QC _ _))⟩):p:=h
theorem Qje{p:Prop}(h:p:=by
 have b11:=b10.trans (U9.mono yM);obtain⟨dQ,yX,Wm,MW,fQ⟩:=Cn;obtain⟨-,-,k11,-⟩:=yX.three;obtain⟨Yi,Yg,Yh,rfl⟩:=Wm.form;dsimp only;refine hK.out _ _ Wp (fun hHeld=>?_);clear hK K;refine QF 23 ⟨some 154,.nilCheck (.tmp 153),_,_,_,_⟩ ((.pointer (some ⟨J8,0,none⟩))) ?_;simp only[Act.put,QZ,QX,QY];refine QF 24 ⟨some 155,.fieldAddr 228 (.tmp 154) 2,_,_,_,_⟩ ((.pointer (some ⟨J8,2,none⟩))) ?_;simp only[Act.put,QZ,QX,QY];refine QO (rs:=[25]) (by kernel_rfl) (by simp) ?_;refine QA (o:=⟨some 156,.load 26 (.tmp 155),_,_,_,_⟩) rfl (fun K hK=>?_) ?_
 ·go_simp
  refine hK.out _ _ (by assumption) (fun hHeld=>?_);clear hK K;refine QO (rs:=[26]) (by kernel_rfl) (by simp) ?_;refine QA (o:=⟨some 157,_,_,_,_,_⟩) rfl (fun K hK=>?_) ?_
  ·go_simp
   refine hK.out _ _ (XN ‹_› Z5 Z4 (QC _ _) (AY ‹_›)) (fun hHeld=>?_);clear hK K;refine QO (rs:=[27]) (by kernel_rfl) (by simp) ?_;refine QA (o:=⟨some 22,.assign (.tmp 157),_,_,_,_⟩) rfl (fun K hK=>?_) ?_
   ·go_simp
    refine hK.out _ _ (by assumption) (fun hHeld=>?_);clear hK K;refine XO (by kernel_rfl) ?_ _;have hbW:Below V4.heap.size V4 V8:=Y1 Wp;have RH:=ed.sl.below b11;have RG:=Wm.sl;go_wp2;go_meet;change∃us,Vs (V8.alloc (.cells #[.slice qJ qX qY,.slice Yi Yg Yh] 26)) (.slice (some ⟨V8.heap.size,0,none⟩) 2 2) us/\Lists (V8.alloc (.cells #[.slice qJ qX qY,.slice Yi Yg Yh] 26)) us _/\Below V4.heap.size V4 (V8.alloc (.cells #[.slice qJ qX qY,.slice Yi Yg Yh] 26));exact⟨[.slice qJ qX qY,.slice Yi Yg Yh],⟨_,2,2,rfl,rfl,by decide,by decide,YJ _ [.slice qJ qX qY,.slice Yi Yg Yh] _,fun h=>by simp at h⟩,(Lists.one (RH.below (QC _ _))).append (Lists.one (RG.below (QC _ _))),hbW.alloc hbW.size _⟩
   exact QI
  exact QI
 exact QI):p:=h
theorem Qjf{p:Prop}(h:p:=by
 have e1:=zR h0;obtain⟨c',hc'⟩:∃c',M8 c=c':=⟨_,rfl⟩;rw[hc']at CS e1;have hS:∀(w:World),Calls Tryz.prog 247 #[.agg #[.int .i64 c.a,.int .i64 c.b,.int .i64 c.c,.int .i64 c.d,.int .i64 c.e]] w (fun e w'=>e=.returned (.tuple #[.agg #[.int .i64 c'.a,.int .i64 c'.b,.int .i64 c'.c,.int .i64 c'.d,.int .i64 c'.e],.bool (WB c.d).isSome])/\Below w.heap.size w w'):=fun w=>by
  have:=CS w;unfold C5.v at this;exact this
 have hno:WB c.d=none->c'=c:=fun hn=>by rw[<-e1];exact zT h0 hn
 have HS:=QQ hS;have zX:=QQ e1;have Yr:=QQ hno;clear CS hS e1 hc' hno h0;rcases hk:WB c.d with _|pq
 ·rw[hk]at HS
  have SH:(none:Option (Int×Int)).isSome=false:=rfl;have HK:=QQ hk;clear hk;go_wp2_with (go_at_call 247;refine(HS.out _).mono ?_;rintro e w8 ⟨rfl,ZU⟩;have Vu:=QQ ZU;clear ZU)
  go_meet;exact⟨rfl,⟨us,by have e:cm=s.cm:=by {rw[<-HL.out,zX.out,Yr.out HK.out,<-HC.out]};rw[e];exact(HX.out.to Vu.out).alloc _⟩,(Z6.of Vu.out).trans (Z6.of (QC _ _))⟩
 ·rw[hk]at HS
  have SH:(some pq:Option (Int×Int)).isSome=true:=rfl;clear hk;go_wp2_with (go_at_call 247;refine(HS.out _).mono ?_;rintro e w8 ⟨rfl,ZU⟩;have Xp:=HX.out.to ZU;have g29:=Xp.XY;have g30:=Xp.Jl;have g31:=Xp.c31;have g32:=Xp.c32;have g33:=Xp.JA;have k29:=Xp.free 29;have lM:=Xp.free 30;have lL:=Xp.free 31;have k32:=Xp.free 32;have k33:=Xp.free 33;have Hr:=Xp.lt;have MH:=QQ Xp;have Vu:=QQ ZU;clear ZU Xp)
  go_meet;exact⟨rfl,⟨_,by have e:cm=c':=HL.out.symm.trans zX.out;rw[e];exact(MH.out.zu c').alloc _⟩,((Z6.of Vu.out).trans (Z6.setCells c'.cells)).trans (Z6.of (QC _ _))⟩):p:=h
theorem Qjg{p:Prop}(h:p:=by
 obtain⟨dQ,yX,Wm,MW,fQ⟩:=Cn;obtain⟨-,-,k11,-⟩:=yX.three;obtain⟨Yi,Yg,Yh,rfl⟩:=Wm.form;dsimp only;refine hK.out _ _ Wp (fun hHeld=>?_);clear hK K;refine QF 23 ⟨some 154,.nilCheck (.tmp 153),_,_,_,_⟩ ((.pointer (some ⟨J8,0,none⟩))) ?_;simp only[Act.put,QZ,QX,QY];refine QF 24 ⟨some 155,.fieldAddr 228 (.tmp 154) 2,_,_,_,_⟩ ((.pointer (some ⟨J8,2,none⟩))) ?_;simp only[Act.put,QZ,QX,QY];refine QO (rs:=[25]) (by kernel_rfl) (by simp) ?_;refine QA (o:=⟨some 156,.load 26 (.tmp 155),_,_,_,_⟩) rfl (fun K hK=>?_) ?_
 ·go_simp
  refine hK.out _ _ (by assumption) (fun hHeld=>?_);clear hK K;refine QO (rs:=[26]) (by kernel_rfl) (by simp) ?_;refine QA (o:=⟨some 157,_,_,_,_,_⟩) rfl (fun K hK=>?_) ?_
  ·go_simp
   refine hK.out _ _ (XN ‹_› Z5 Z4 (QC _ _) (AY ‹_›)) (fun hHeld=>?_);clear hK K;refine QO (rs:=[27]) (by kernel_rfl) (by simp) ?_;refine QA (o:=⟨some 22,.assign (.tmp 157),_,_,_,_⟩) rfl (fun K hK=>?_) ?_
   ·go_simp
    refine hK.out _ _ (by assumption) (fun hHeld=>?_);clear hK K;refine XO (by kernel_rfl) ?_ _;have hbW:Below V4.heap.size V4 V8:=Y1 Wp;have RH:=ed.sl.below b11;have RG:=Wm.sl;go_wp2;go_meet;change∃us,Vs (V8.alloc (.cells #[.slice qJ qX qY,.slice Yi Yg Yh] 26)) (.slice (some ⟨V8.heap.size,0,none⟩) 2 2) us/\Lists (V8.alloc (.cells #[.slice qJ qX qY,.slice Yi Yg Yh] 26)) us _/\Below V4.heap.size V4 (V8.alloc (.cells #[.slice qJ qX qY,.slice Yi Yg Yh] 26));exact⟨[.slice qJ qX qY,.slice Yi Yg Yh],⟨_,2,2,rfl,rfl,by decide,by decide,YJ _ [.slice qJ qX qY,.slice Yi Yg Yh] _,fun h=>by simp at h⟩,(Lists.one (RH.below (QC _ _))).append (Lists.one (RG.below (QC _ _))),hbW.alloc hbW.size _⟩
   exact QI
  exact QI
 exact QI):p:=h
theorem Qjh{p:Prop}(h:p:=by
 obtain⟨c',hc'⟩:∃c',M8 c=c':=⟨_,rfl⟩;rw[hc']at CS e1;have hS:∀(w:World),Calls Tryz.prog 247 #[.agg #[.int .i64 c.a,.int .i64 c.b,.int .i64 c.c,.int .i64 c.d,.int .i64 c.e]] w (fun e w'=>e=.returned (.tuple #[.agg #[.int .i64 c'.a,.int .i64 c'.b,.int .i64 c'.c,.int .i64 c'.d,.int .i64 c'.e],.bool (WB c.d).isSome])/\Below w.heap.size w w'):=fun w=>by
  have:=CS w;unfold C5.v at this;exact this
 have hno:WB c.d=none->c'=c:=fun hn=>by rw[<-e1];exact zT h0 hn
 have HS:=QQ hS;have zX:=QQ e1;have Yr:=QQ hno;clear CS hS e1 hc' hno h0;rcases hk:WB c.d with _|pq
 ·rw[hk]at HS
  have SH:(none:Option (Int×Int)).isSome=false:=rfl;have HK:=QQ hk;clear hk;go_wp2_with (go_at_call 247;refine(HS.out _).mono ?_;rintro e w8 ⟨rfl,ZU⟩;have Vu:=QQ ZU;clear ZU)
  go_meet;exact⟨rfl,⟨us,by have e:cm=s.cm:=by {rw[<-HL.out,zX.out,Yr.out HK.out,<-HC.out]};rw[e];exact(HX.out.to Vu.out).alloc _⟩,(Z6.of Vu.out).trans (Z6.of (QC _ _))⟩
 ·rw[hk]at HS
  have SH:(some pq:Option (Int×Int)).isSome=true:=rfl;clear hk;go_wp2_with (go_at_call 247;refine(HS.out _).mono ?_;rintro e w8 ⟨rfl,ZU⟩;have Xp:=HX.out.to ZU;have g29:=Xp.XY;have g30:=Xp.Jl;have g31:=Xp.c31;have g32:=Xp.c32;have g33:=Xp.JA;have k29:=Xp.free 29;have lM:=Xp.free 30;have lL:=Xp.free 31;have k32:=Xp.free 32;have k33:=Xp.free 33;have Hr:=Xp.lt;have MH:=QQ Xp;have Vu:=QQ ZU;clear ZU Xp)
  go_meet;exact⟨rfl,⟨_,by have e:cm=c':=HL.out.symm.trans zX.out;rw[e];exact(MH.out.zu c').alloc _⟩,((Z6.of Vu.out).trans (Z6.setCells c'.cells)).trans (Z6.of (QC _ _))⟩):p:=h
theorem Qji{p:Prop}(h:p:=by
 clear hK K;refine QO (rs:=[26]) (by kernel_rfl) (by simp) ?_;refine QA (o:=⟨some 157,_,_,_,_,_⟩) rfl (fun K hK=>?_) ?_
 ·go_simp
  refine hK.out _ _ (XN ‹_› Z5 Z4 (QC _ _) (AY ‹_›)) (fun hHeld=>?_);clear hK K;refine QO (rs:=[27]) (by kernel_rfl) (by simp) ?_;refine QA (o:=⟨some 22,.assign (.tmp 157),_,_,_,_⟩) rfl (fun K hK=>?_) ?_
  ·go_simp
   refine hK.out _ _ (by assumption) (fun hHeld=>?_);clear hK K;refine XO (by kernel_rfl) ?_ _;have hbW:Below V4.heap.size V4 V8:=Y1 Wp;have RH:=ed.sl.below b11;have RG:=Wm.sl;go_wp2;go_meet;change∃us,Vs (V8.alloc (.cells #[.slice qJ qX qY,.slice Yi Yg Yh] 26)) (.slice (some ⟨V8.heap.size,0,none⟩) 2 2) us/\Lists (V8.alloc (.cells #[.slice qJ qX qY,.slice Yi Yg Yh] 26)) us _/\Below V4.heap.size V4 (V8.alloc (.cells #[.slice qJ qX qY,.slice Yi Yg Yh] 26));exact⟨[.slice qJ qX qY,.slice Yi Yg Yh],⟨_,2,2,rfl,rfl,by decide,by decide,YJ _ [.slice qJ qX qY,.slice Yi Yg Yh] _,fun h=>by simp at h⟩,(Lists.one (RH.below (QC _ _))).append (Lists.one (RG.below (QC _ _))),hbW.alloc hbW.size _⟩
  exact QI
 exact QI):p:=h
theorem Qjl{p:Prop}(h:p:=by
 obtain⟨-,-,k11,-⟩:=yX.three;obtain⟨Yi,Yg,Yh,rfl⟩:=Wm.form;dsimp only;refine hK.out _ _ Wp (fun hHeld=>?_);clear hK K;refine QF 23 ⟨some 154,.nilCheck (.tmp 153),_,_,_,_⟩ ((.pointer (some ⟨J8,0,none⟩))) ?_;simp only[Act.put,QZ,QX,QY];refine QF 24 ⟨some 155,.fieldAddr 228 (.tmp 154) 2,_,_,_,_⟩ ((.pointer (some ⟨J8,2,none⟩))) ?_;simp only[Act.put,QZ,QX,QY];refine QO (rs:=[25]) (by kernel_rfl) (by simp) ?_;refine QA (o:=⟨some 156,.load 26 (.tmp 155),_,_,_,_⟩) rfl (fun K hK=>?_) ?_
 ·go_simp
  refine hK.out _ _ (by assumption) (fun hHeld=>?_);clear hK K;refine QO (rs:=[26]) (by kernel_rfl) (by simp) ?_;refine QA (o:=⟨some 157,_,_,_,_,_⟩) rfl (fun K hK=>?_) ?_
  ·go_simp
   refine hK.out _ _ (XN ‹_› Z5 Z4 (QC _ _) (AY ‹_›)) (fun hHeld=>?_);clear hK K;refine QO (rs:=[27]) (by kernel_rfl) (by simp) ?_;refine QA (o:=⟨some 22,.assign (.tmp 157),_,_,_,_⟩) rfl (fun K hK=>?_) ?_
   ·go_simp
    refine hK.out _ _ (by assumption) (fun hHeld=>?_);clear hK K;refine XO (by kernel_rfl) ?_ _;have hbW:Below V4.heap.size V4 V8:=Y1 Wp;have RH:=ed.sl.below b11;have RG:=Wm.sl;go_wp2;go_meet;change∃us,Vs (V8.alloc (.cells #[.slice qJ qX qY,.slice Yi Yg Yh] 26)) (.slice (some ⟨V8.heap.size,0,none⟩) 2 2) us/\Lists (V8.alloc (.cells #[.slice qJ qX qY,.slice Yi Yg Yh] 26)) us _/\Below V4.heap.size V4 (V8.alloc (.cells #[.slice qJ qX qY,.slice Yi Yg Yh] 26));exact⟨[.slice qJ qX qY,.slice Yi Yg Yh],⟨_,2,2,rfl,rfl,by decide,by decide,YJ _ [.slice qJ qX qY,.slice Yi Yg Yh] _,fun h=>by simp at h⟩,(Lists.one (RH.below (QC _ _))).append (Lists.one (RG.below (QC _ _))),hbW.alloc hbW.size _⟩
   exact QI
  exact QI
 exact QI):p:=h
theorem Qjm{p:Prop}(h:p:=by
 refine QO (rs:=[26]) (by kernel_rfl) (by simp) ?_;refine QA (o:=⟨some 157,_,_,_,_,_⟩) rfl (fun K hK=>?_) ?_
 ·go_simp
  refine hK.out _ _ (XN ‹_› Z5 Z4 (QC _ _) (AY ‹_›)) (fun hHeld=>?_);clear hK K;refine QO (rs:=[27]) (by kernel_rfl) (by simp) ?_;refine QA (o:=⟨some 22,.assign (.tmp 157),_,_,_,_⟩) rfl (fun K hK=>?_) ?_
  ·go_simp
   refine hK.out _ _ (by assumption) (fun hHeld=>?_);clear hK K;refine XO (by kernel_rfl) ?_ _;have hbW:Below V4.heap.size V4 V8:=Y1 Wp;have RH:=ed.sl.below b11;have RG:=Wm.sl;go_wp2;go_meet;change∃us,Vs (V8.alloc (.cells #[.slice qJ qX qY,.slice Yi Yg Yh] 26)) (.slice (some ⟨V8.heap.size,0,none⟩) 2 2) us/\Lists (V8.alloc (.cells #[.slice qJ qX qY,.slice Yi Yg Yh] 26)) us _/\Below V4.heap.size V4 (V8.alloc (.cells #[.slice qJ qX qY,.slice Yi Yg Yh] 26));exact⟨[.slice qJ qX qY,.slice Yi Yg Yh],⟨_,2,2,rfl,rfl,by decide,by decide,YJ _ [.slice qJ qX qY,.slice Yi Yg Yh] _,fun h=>by simp at h⟩,(Lists.one (RH.below (QC _ _))).append (Lists.one (RG.below (QC _ _))),hbW.alloc hbW.size _⟩
  exact QI
 exact QI):p:=h
theorem Qjn{p:Prop}(h:p:=by
 refine QO (rs:=[25]) (by kernel_rfl) (by simp) ?_;refine QA (o:=⟨some 156,.load 26 (.tmp 155),_,_,_,_⟩) rfl (fun K hK=>?_) ?_
 ·go_simp
  refine hK.out _ _ (by assumption) (fun hHeld=>?_);clear hK K;refine QO (rs:=[26]) (by kernel_rfl) (by simp) ?_;refine QA (o:=⟨some 157,_,_,_,_,_⟩) rfl (fun K hK=>?_) ?_
  ·go_simp
   refine hK.out _ _ (XN ‹_› Z5 Z4 (QC _ _) (AY ‹_›)) (fun hHeld=>?_);clear hK K;refine QO (rs:=[27]) (by kernel_rfl) (by simp) ?_;refine QA (o:=⟨some 22,.assign (.tmp 157),_,_,_,_⟩) rfl (fun K hK=>?_) ?_
   ·go_simp
    refine hK.out _ _ (by assumption) (fun hHeld=>?_);clear hK K;refine XO (by kernel_rfl) ?_ _;have hbW:Below V4.heap.size V4 V8:=Y1 Wp;have RH:=ed.sl.below b11;have RG:=Wm.sl;go_wp2;go_meet;change∃us,Vs (V8.alloc (.cells #[.slice qJ qX qY,.slice Yi Yg Yh] 26)) (.slice (some ⟨V8.heap.size,0,none⟩) 2 2) us/\Lists (V8.alloc (.cells #[.slice qJ qX qY,.slice Yi Yg Yh] 26)) us _/\Below V4.heap.size V4 (V8.alloc (.cells #[.slice qJ qX qY,.slice Yi Yg Yh] 26));exact⟨[.slice qJ qX qY,.slice Yi Yg Yh],⟨_,2,2,rfl,rfl,by decide,by decide,YJ _ [.slice qJ qX qY,.slice Yi Yg Yh] _,fun h=>by simp at h⟩,(Lists.one (RH.below (QC _ _))).append (Lists.one (RG.below (QC _ _))),hbW.alloc hbW.size _⟩
   exact QI
  exact QI
 exact QI):p:=h
theorem Qjo{p:Prop}(h:p:=by
 rw[hc']at CS e1;have hS:∀(w:World),Calls Tryz.prog 247 #[.agg #[.int .i64 c.a,.int .i64 c.b,.int .i64 c.c,.int .i64 c.d,.int .i64 c.e]] w (fun e w'=>e=.returned (.tuple #[.agg #[.int .i64 c'.a,.int .i64 c'.b,.int .i64 c'.c,.int .i64 c'.d,.int .i64 c'.e],.bool (WB c.d).isSome])/\Below w.heap.size w w'):=fun w=>by
  have:=CS w;unfold C5.v at this;exact this
 have hno:WB c.d=none->c'=c:=fun hn=>by rw[<-e1];exact zT h0 hn
 have HS:=QQ hS;have zX:=QQ e1;have Yr:=QQ hno;clear CS hS e1 hc' hno h0;rcases hk:WB c.d with _|pq
 ·rw[hk]at HS
  have SH:(none:Option (Int×Int)).isSome=false:=rfl;have HK:=QQ hk;clear hk;go_wp2_with (go_at_call 247;refine(HS.out _).mono ?_;rintro e w8 ⟨rfl,ZU⟩;have Vu:=QQ ZU;clear ZU)
  go_meet;exact⟨rfl,⟨us,by have e:cm=s.cm:=by {rw[<-HL.out,zX.out,Yr.out HK.out,<-HC.out]};rw[e];exact(HX.out.to Vu.out).alloc _⟩,(Z6.of Vu.out).trans (Z6.of (QC _ _))⟩
 ·rw[hk]at HS
  have SH:(some pq:Option (Int×Int)).isSome=true:=rfl;clear hk;go_wp2_with (go_at_call 247;refine(HS.out _).mono ?_;rintro e w8 ⟨rfl,ZU⟩;have Xp:=HX.out.to ZU;have g29:=Xp.XY;have g30:=Xp.Jl;have g31:=Xp.c31;have g32:=Xp.c32;have g33:=Xp.JA;have k29:=Xp.free 29;have lM:=Xp.free 30;have lL:=Xp.free 31;have k32:=Xp.free 32;have k33:=Xp.free 33;have Hr:=Xp.lt;have MH:=QQ Xp;have Vu:=QQ ZU;clear ZU Xp)
  go_meet;exact⟨rfl,⟨_,by have e:cm=c':=HL.out.symm.trans zX.out;rw[e];exact(MH.out.zu c').alloc _⟩,((Z6.of Vu.out).trans (Z6.setCells c'.cells)).trans (Z6.of (QC _ _))⟩):p:=h
theorem Qjp{p:Prop}(h:p:=by
 obtain⟨Yi,Yg,Yh,rfl⟩:=Wm.form;dsimp only;refine hK.out _ _ Wp (fun hHeld=>?_);clear hK K;refine QF 23 ⟨some 154,.nilCheck (.tmp 153),_,_,_,_⟩ ((.pointer (some ⟨J8,0,none⟩))) ?_;simp only[Act.put,QZ,QX,QY];refine QF 24 ⟨some 155,.fieldAddr 228 (.tmp 154) 2,_,_,_,_⟩ ((.pointer (some ⟨J8,2,none⟩))) ?_;simp only[Act.put,QZ,QX,QY];refine QO (rs:=[25]) (by kernel_rfl) (by simp) ?_;refine QA (o:=⟨some 156,.load 26 (.tmp 155),_,_,_,_⟩) rfl (fun K hK=>?_) ?_
 ·go_simp
  refine hK.out _ _ (by assumption) (fun hHeld=>?_);clear hK K;refine QO (rs:=[26]) (by kernel_rfl) (by simp) ?_;refine QA (o:=⟨some 157,_,_,_,_,_⟩) rfl (fun K hK=>?_) ?_
  ·go_simp
   refine hK.out _ _ (XN ‹_› Z5 Z4 (QC _ _) (AY ‹_›)) (fun hHeld=>?_);clear hK K;refine QO (rs:=[27]) (by kernel_rfl) (by simp) ?_;refine QA (o:=⟨some 22,.assign (.tmp 157),_,_,_,_⟩) rfl (fun K hK=>?_) ?_
   ·go_simp
    refine hK.out _ _ (by assumption) (fun hHeld=>?_);clear hK K;refine XO (by kernel_rfl) ?_ _;have hbW:Below V4.heap.size V4 V8:=Y1 Wp;have RH:=ed.sl.below b11;have RG:=Wm.sl;go_wp2;go_meet;change∃us,Vs (V8.alloc (.cells #[.slice qJ qX qY,.slice Yi Yg Yh] 26)) (.slice (some ⟨V8.heap.size,0,none⟩) 2 2) us/\Lists (V8.alloc (.cells #[.slice qJ qX qY,.slice Yi Yg Yh] 26)) us _/\Below V4.heap.size V4 (V8.alloc (.cells #[.slice qJ qX qY,.slice Yi Yg Yh] 26));exact⟨[.slice qJ qX qY,.slice Yi Yg Yh],⟨_,2,2,rfl,rfl,by decide,by decide,YJ _ [.slice qJ qX qY,.slice Yi Yg Yh] _,fun h=>by simp at h⟩,(Lists.one (RH.below (QC _ _))).append (Lists.one (RG.below (QC _ _))),hbW.alloc hbW.size _⟩
   exact QI
  exact QI
 exact QI):p:=h
theorem Qjr{p:Prop}(h:p:=by
 have hS:∀(w:World),Calls Tryz.prog 247 #[.agg #[.int .i64 c.a,.int .i64 c.b,.int .i64 c.c,.int .i64 c.d,.int .i64 c.e]] w (fun e w'=>e=.returned (.tuple #[.agg #[.int .i64 c'.a,.int .i64 c'.b,.int .i64 c'.c,.int .i64 c'.d,.int .i64 c'.e],.bool (WB c.d).isSome])/\Below w.heap.size w w'):=fun w=>by
  have:=CS w;unfold C5.v at this;exact this
 have hno:WB c.d=none->c'=c:=fun hn=>by rw[<-e1];exact zT h0 hn
 have HS:=QQ hS;have zX:=QQ e1;have Yr:=QQ hno;clear CS hS e1 hc' hno h0;rcases hk:WB c.d with _|pq
 ·rw[hk]at HS
  have SH:(none:Option (Int×Int)).isSome=false:=rfl;have HK:=QQ hk;clear hk;go_wp2_with (go_at_call 247;refine(HS.out _).mono ?_;rintro e w8 ⟨rfl,ZU⟩;have Vu:=QQ ZU;clear ZU)
  go_meet;exact⟨rfl,⟨us,by have e:cm=s.cm:=by {rw[<-HL.out,zX.out,Yr.out HK.out,<-HC.out]};rw[e];exact(HX.out.to Vu.out).alloc _⟩,(Z6.of Vu.out).trans (Z6.of (QC _ _))⟩
 ·rw[hk]at HS
  have SH:(some pq:Option (Int×Int)).isSome=true:=rfl;clear hk;go_wp2_with (go_at_call 247;refine(HS.out _).mono ?_;rintro e w8 ⟨rfl,ZU⟩;have Xp:=HX.out.to ZU;have g29:=Xp.XY;have g30:=Xp.Jl;have g31:=Xp.c31;have g32:=Xp.c32;have g33:=Xp.JA;have k29:=Xp.free 29;have lM:=Xp.free 30;have lL:=Xp.free 31;have k32:=Xp.free 32;have k33:=Xp.free 33;have Hr:=Xp.lt;have MH:=QQ Xp;have Vu:=QQ ZU;clear ZU Xp)
  go_meet;exact⟨rfl,⟨_,by have e:cm=c':=HL.out.symm.trans zX.out;rw[e];exact(MH.out.zu c').alloc _⟩,((Z6.of Vu.out).trans (Z6.setCells c'.cells)).trans (Z6.of (QC _ _))⟩):p:=h
theorem Qjs{p:Prop}(h:p:=by
 refine QA (o:=⟨some 156,.load 26 (.tmp 155),_,_,_,_⟩) rfl (fun K hK=>?_) ?_
 ·go_simp
  refine hK.out _ _ (by assumption) (fun hHeld=>?_);clear hK K;refine QO (rs:=[26]) (by kernel_rfl) (by simp) ?_;refine QA (o:=⟨some 157,_,_,_,_,_⟩) rfl (fun K hK=>?_) ?_
  ·go_simp
   refine hK.out _ _ (XN ‹_› Z5 Z4 (QC _ _) (AY ‹_›)) (fun hHeld=>?_);clear hK K;refine QO (rs:=[27]) (by kernel_rfl) (by simp) ?_;refine QA (o:=⟨some 22,.assign (.tmp 157),_,_,_,_⟩) rfl (fun K hK=>?_) ?_
   ·go_simp
    refine hK.out _ _ (by assumption) (fun hHeld=>?_);clear hK K;refine XO (by kernel_rfl) ?_ _;have hbW:Below V4.heap.size V4 V8:=Y1 Wp;have RH:=ed.sl.below b11;have RG:=Wm.sl;go_wp2;go_meet;change∃us,Vs (V8.alloc (.cells #[.slice qJ qX qY,.slice Yi Yg Yh] 26)) (.slice (some ⟨V8.heap.size,0,none⟩) 2 2) us/\Lists (V8.alloc (.cells #[.slice qJ qX qY,.slice Yi Yg Yh] 26)) us _/\Below V4.heap.size V4 (V8.alloc (.cells #[.slice qJ qX qY,.slice Yi Yg Yh] 26));exact⟨[.slice qJ qX qY,.slice Yi Yg Yh],⟨_,2,2,rfl,rfl,by decide,by decide,YJ _ [.slice qJ qX qY,.slice Yi Yg Yh] _,fun h=>by simp at h⟩,(Lists.one (RH.below (QC _ _))).append (Lists.one (RG.below (QC _ _))),hbW.alloc hbW.size _⟩
   exact QI
  exact QI
 exact QI):p:=h
theorem Qjt{p:Prop}(h:p:=by
 dsimp only;refine hK.out _ _ Wp (fun hHeld=>?_);clear hK K;refine QF 23 ⟨some 154,.nilCheck (.tmp 153),_,_,_,_⟩ ((.pointer (some ⟨J8,0,none⟩))) ?_;simp only[Act.put,QZ,QX,QY];refine QF 24 ⟨some 155,.fieldAddr 228 (.tmp 154) 2,_,_,_,_⟩ ((.pointer (some ⟨J8,2,none⟩))) ?_;simp only[Act.put,QZ,QX,QY];refine QO (rs:=[25]) (by kernel_rfl) (by simp) ?_;refine QA (o:=⟨some 156,.load 26 (.tmp 155),_,_,_,_⟩) rfl (fun K hK=>?_) ?_
 ·go_simp
  refine hK.out _ _ (by assumption) (fun hHeld=>?_);clear hK K;refine QO (rs:=[26]) (by kernel_rfl) (by simp) ?_;refine QA (o:=⟨some 157,_,_,_,_,_⟩) rfl (fun K hK=>?_) ?_
  ·go_simp
   refine hK.out _ _ (XN ‹_› Z5 Z4 (QC _ _) (AY ‹_›)) (fun hHeld=>?_);clear hK K;refine QO (rs:=[27]) (by kernel_rfl) (by simp) ?_;refine QA (o:=⟨some 22,.assign (.tmp 157),_,_,_,_⟩) rfl (fun K hK=>?_) ?_
   ·go_simp
    refine hK.out _ _ (by assumption) (fun hHeld=>?_);clear hK K;refine XO (by kernel_rfl) ?_ _;have hbW:Below V4.heap.size V4 V8:=Y1 Wp;have RH:=ed.sl.below b11;have RG:=Wm.sl;go_wp2;go_meet;change∃us,Vs (V8.alloc (.cells #[.slice qJ qX qY,.slice Yi Yg Yh] 26)) (.slice (some ⟨V8.heap.size,0,none⟩) 2 2) us/\Lists (V8.alloc (.cells #[.slice qJ qX qY,.slice Yi Yg Yh] 26)) us _/\Below V4.heap.size V4 (V8.alloc (.cells #[.slice qJ qX qY,.slice Yi Yg Yh] 26));exact⟨[.slice qJ qX qY,.slice Yi Yg Yh],⟨_,2,2,rfl,rfl,by decide,by decide,YJ _ [.slice qJ qX qY,.slice Yi Yg Yh] _,fun h=>by simp at h⟩,(Lists.one (RH.below (QC _ _))).append (Lists.one (RG.below (QC _ _))),hbW.alloc hbW.size _⟩
   exact QI
  exact QI
 exact QI):p:=h
theorem Qj0{p:Prop}(h:p:=by
 refine QA (o:=⟨some 157,_,_,_,_,_⟩) rfl (fun K hK=>?_) ?_
 ·go_simp
  refine hK.out _ _ (XN ‹_› Z5 Z4 (QC _ _) (AY ‹_›)) (fun hHeld=>?_);clear hK K;refine QO (rs:=[27]) (by kernel_rfl) (by simp) ?_;refine QA (o:=⟨some 22,.assign (.tmp 157),_,_,_,_⟩) rfl (fun K hK=>?_) ?_
  ·go_simp
   refine hK.out _ _ (by assumption) (fun hHeld=>?_);clear hK K;refine XO (by kernel_rfl) ?_ _;have hbW:Below V4.heap.size V4 V8:=Y1 Wp;have RH:=ed.sl.below b11;have RG:=Wm.sl;go_wp2;go_meet;change∃us,Vs (V8.alloc (.cells #[.slice qJ qX qY,.slice Yi Yg Yh] 26)) (.slice (some ⟨V8.heap.size,0,none⟩) 2 2) us/\Lists (V8.alloc (.cells #[.slice qJ qX qY,.slice Yi Yg Yh] 26)) us _/\Below V4.heap.size V4 (V8.alloc (.cells #[.slice qJ qX qY,.slice Yi Yg Yh] 26));exact⟨[.slice qJ qX qY,.slice Yi Yg Yh],⟨_,2,2,rfl,rfl,by decide,by decide,YJ _ [.slice qJ qX qY,.slice Yi Yg Yh] _,fun h=>by simp at h⟩,(Lists.one (RH.below (QC _ _))).append (Lists.one (RG.below (QC _ _))),hbW.alloc hbW.size _⟩
  exact QI
 exact QI):p:=h
theorem Qj1{p:Prop}(h:p:=by
 refine hK.out _ _ Wp (fun hHeld=>?_);clear hK K;refine QF 23 ⟨some 154,.nilCheck (.tmp 153),_,_,_,_⟩ ((.pointer (some ⟨J8,0,none⟩))) ?_;simp only[Act.put,QZ,QX,QY];refine QF 24 ⟨some 155,.fieldAddr 228 (.tmp 154) 2,_,_,_,_⟩ ((.pointer (some ⟨J8,2,none⟩))) ?_;simp only[Act.put,QZ,QX,QY];refine QO (rs:=[25]) (by kernel_rfl) (by simp) ?_;refine QA (o:=⟨some 156,.load 26 (.tmp 155),_,_,_,_⟩) rfl (fun K hK=>?_) ?_
 ·go_simp
  refine hK.out _ _ (by assumption) (fun hHeld=>?_);clear hK K;refine QO (rs:=[26]) (by kernel_rfl) (by simp) ?_;refine QA (o:=⟨some 157,_,_,_,_,_⟩) rfl (fun K hK=>?_) ?_
  ·go_simp
   refine hK.out _ _ (XN ‹_› Z5 Z4 (QC _ _) (AY ‹_›)) (fun hHeld=>?_);clear hK K;refine QO (rs:=[27]) (by kernel_rfl) (by simp) ?_;refine QA (o:=⟨some 22,.assign (.tmp 157),_,_,_,_⟩) rfl (fun K hK=>?_) ?_
   ·go_simp
    refine hK.out _ _ (by assumption) (fun hHeld=>?_);clear hK K;refine XO (by kernel_rfl) ?_ _;have hbW:Below V4.heap.size V4 V8:=Y1 Wp;have RH:=ed.sl.below b11;have RG:=Wm.sl;go_wp2;go_meet;change∃us,Vs (V8.alloc (.cells #[.slice qJ qX qY,.slice Yi Yg Yh] 26)) (.slice (some ⟨V8.heap.size,0,none⟩) 2 2) us/\Lists (V8.alloc (.cells #[.slice qJ qX qY,.slice Yi Yg Yh] 26)) us _/\Below V4.heap.size V4 (V8.alloc (.cells #[.slice qJ qX qY,.slice Yi Yg Yh] 26));exact⟨[.slice qJ qX qY,.slice Yi Yg Yh],⟨_,2,2,rfl,rfl,by decide,by decide,YJ _ [.slice qJ qX qY,.slice Yi Yg Yh] _,fun h=>by simp at h⟩,(Lists.one (RH.below (QC _ _))).append (Lists.one (RG.below (QC _ _))),hbW.alloc hbW.size _⟩
   exact QI
  exact QI
 exact QI):p:=h
theorem Qj2{p:Prop}(h:p:=by
 clear hK K;refine QF 23 ⟨some 154,.nilCheck (.tmp 153),_,_,_,_⟩ ((.pointer (some ⟨J8,0,none⟩))) ?_;simp only[Act.put,QZ,QX,QY];refine QF 24 ⟨some 155,.fieldAddr 228 (.tmp 154) 2,_,_,_,_⟩ ((.pointer (some ⟨J8,2,none⟩))) ?_;simp only[Act.put,QZ,QX,QY];refine QO (rs:=[25]) (by kernel_rfl) (by simp) ?_;refine QA (o:=⟨some 156,.load 26 (.tmp 155),_,_,_,_⟩) rfl (fun K hK=>?_) ?_
 ·go_simp
  refine hK.out _ _ (by assumption) (fun hHeld=>?_);clear hK K;refine QO (rs:=[26]) (by kernel_rfl) (by simp) ?_;refine QA (o:=⟨some 157,_,_,_,_,_⟩) rfl (fun K hK=>?_) ?_
  ·go_simp
   refine hK.out _ _ (XN ‹_› Z5 Z4 (QC _ _) (AY ‹_›)) (fun hHeld=>?_);clear hK K;refine QO (rs:=[27]) (by kernel_rfl) (by simp) ?_;refine QA (o:=⟨some 22,.assign (.tmp 157),_,_,_,_⟩) rfl (fun K hK=>?_) ?_
   ·go_simp
    refine hK.out _ _ (by assumption) (fun hHeld=>?_);clear hK K;refine XO (by kernel_rfl) ?_ _;have hbW:Below V4.heap.size V4 V8:=Y1 Wp;have RH:=ed.sl.below b11;have RG:=Wm.sl;go_wp2;go_meet;change∃us,Vs (V8.alloc (.cells #[.slice qJ qX qY,.slice Yi Yg Yh] 26)) (.slice (some ⟨V8.heap.size,0,none⟩) 2 2) us/\Lists (V8.alloc (.cells #[.slice qJ qX qY,.slice Yi Yg Yh] 26)) us _/\Below V4.heap.size V4 (V8.alloc (.cells #[.slice qJ qX qY,.slice Yi Yg Yh] 26));exact⟨[.slice qJ qX qY,.slice Yi Yg Yh],⟨_,2,2,rfl,rfl,by decide,by decide,YJ _ [.slice qJ qX qY,.slice Yi Yg Yh] _,fun h=>by simp at h⟩,(Lists.one (RH.below (QC _ _))).append (Lists.one (RG.below (QC _ _))),hbW.alloc hbW.size _⟩
   exact QI
  exact QI
 exact QI):p:=h
theorem Qj3{p:Prop}(h:p:=by
 refine QF 23 ⟨some 154,.nilCheck (.tmp 153),_,_,_,_⟩ ((.pointer (some ⟨J8,0,none⟩))) ?_;simp only[Act.put,QZ,QX,QY];refine QF 24 ⟨some 155,.fieldAddr 228 (.tmp 154) 2,_,_,_,_⟩ ((.pointer (some ⟨J8,2,none⟩))) ?_;simp only[Act.put,QZ,QX,QY];refine QO (rs:=[25]) (by kernel_rfl) (by simp) ?_;refine QA (o:=⟨some 156,.load 26 (.tmp 155),_,_,_,_⟩) rfl (fun K hK=>?_) ?_
 ·go_simp
  refine hK.out _ _ (by assumption) (fun hHeld=>?_);clear hK K;refine QO (rs:=[26]) (by kernel_rfl) (by simp) ?_;refine QA (o:=⟨some 157,_,_,_,_,_⟩) rfl (fun K hK=>?_) ?_
  ·go_simp
   refine hK.out _ _ (XN ‹_› Z5 Z4 (QC _ _) (AY ‹_›)) (fun hHeld=>?_);clear hK K;refine QO (rs:=[27]) (by kernel_rfl) (by simp) ?_;refine QA (o:=⟨some 22,.assign (.tmp 157),_,_,_,_⟩) rfl (fun K hK=>?_) ?_
   ·go_simp
    refine hK.out _ _ (by assumption) (fun hHeld=>?_);clear hK K;refine XO (by kernel_rfl) ?_ _;have hbW:Below V4.heap.size V4 V8:=Y1 Wp;have RH:=ed.sl.below b11;have RG:=Wm.sl;go_wp2;go_meet;change∃us,Vs (V8.alloc (.cells #[.slice qJ qX qY,.slice Yi Yg Yh] 26)) (.slice (some ⟨V8.heap.size,0,none⟩) 2 2) us/\Lists (V8.alloc (.cells #[.slice qJ qX qY,.slice Yi Yg Yh] 26)) us _/\Below V4.heap.size V4 (V8.alloc (.cells #[.slice qJ qX qY,.slice Yi Yg Yh] 26));exact⟨[.slice qJ qX qY,.slice Yi Yg Yh],⟨_,2,2,rfl,rfl,by decide,by decide,YJ _ [.slice qJ qX qY,.slice Yi Yg Yh] _,fun h=>by simp at h⟩,(Lists.one (RH.below (QC _ _))).append (Lists.one (RG.below (QC _ _))),hbW.alloc hbW.size _⟩
   exact QI
  exact QI
 exact QI):p:=h
theorem Qj4{p:Prop}(h:p:=by
 simp only[Act.put,QZ,QX,QY];refine QF 24 ⟨some 155,.fieldAddr 228 (.tmp 154) 2,_,_,_,_⟩ ((.pointer (some ⟨J8,2,none⟩))) ?_;simp only[Act.put,QZ,QX,QY];refine QO (rs:=[25]) (by kernel_rfl) (by simp) ?_;refine QA (o:=⟨some 156,.load 26 (.tmp 155),_,_,_,_⟩) rfl (fun K hK=>?_) ?_
 ·go_simp
  refine hK.out _ _ (by assumption) (fun hHeld=>?_);clear hK K;refine QO (rs:=[26]) (by kernel_rfl) (by simp) ?_;refine QA (o:=⟨some 157,_,_,_,_,_⟩) rfl (fun K hK=>?_) ?_
  ·go_simp
   refine hK.out _ _ (XN ‹_› Z5 Z4 (QC _ _) (AY ‹_›)) (fun hHeld=>?_);clear hK K;refine QO (rs:=[27]) (by kernel_rfl) (by simp) ?_;refine QA (o:=⟨some 22,.assign (.tmp 157),_,_,_,_⟩) rfl (fun K hK=>?_) ?_
   ·go_simp
    refine hK.out _ _ (by assumption) (fun hHeld=>?_);clear hK K;refine XO (by kernel_rfl) ?_ _;have hbW:Below V4.heap.size V4 V8:=Y1 Wp;have RH:=ed.sl.below b11;have RG:=Wm.sl;go_wp2;go_meet;change∃us,Vs (V8.alloc (.cells #[.slice qJ qX qY,.slice Yi Yg Yh] 26)) (.slice (some ⟨V8.heap.size,0,none⟩) 2 2) us/\Lists (V8.alloc (.cells #[.slice qJ qX qY,.slice Yi Yg Yh] 26)) us _/\Below V4.heap.size V4 (V8.alloc (.cells #[.slice qJ qX qY,.slice Yi Yg Yh] 26));exact⟨[.slice qJ qX qY,.slice Yi Yg Yh],⟨_,2,2,rfl,rfl,by decide,by decide,YJ _ [.slice qJ qX qY,.slice Yi Yg Yh] _,fun h=>by simp at h⟩,(Lists.one (RH.below (QC _ _))).append (Lists.one (RG.below (QC _ _))),hbW.alloc hbW.size _⟩
   exact QI
  exact QI
 exact QI):p:=h
theorem Qj5{p:Prop}(h:p:=by
 refine hK.out _ _ (XN ‹_› Z5 Z4 (QC _ _) (AY ‹_›)) (fun hHeld=>?_);clear hK K;refine QO (rs:=[27]) (by kernel_rfl) (by simp) ?_;refine QA (o:=⟨some 22,.assign (.tmp 157),_,_,_,_⟩) rfl (fun K hK=>?_) ?_
 ·go_simp
  refine hK.out _ _ (by assumption) (fun hHeld=>?_);clear hK K;refine XO (by kernel_rfl) ?_ _;have hbW:Below V4.heap.size V4 V8:=Y1 Wp;have RH:=ed.sl.below b11;have RG:=Wm.sl;go_wp2;go_meet;change∃us,Vs (V8.alloc (.cells #[.slice qJ qX qY,.slice Yi Yg Yh] 26)) (.slice (some ⟨V8.heap.size,0,none⟩) 2 2) us/\Lists (V8.alloc (.cells #[.slice qJ qX qY,.slice Yi Yg Yh] 26)) us _/\Below V4.heap.size V4 (V8.alloc (.cells #[.slice qJ qX qY,.slice Yi Yg Yh] 26));exact⟨[.slice qJ qX qY,.slice Yi Yg Yh],⟨_,2,2,rfl,rfl,by decide,by decide,YJ _ [.slice qJ qX qY,.slice Yi Yg Yh] _,fun h=>by simp at h⟩,(Lists.one (RH.below (QC _ _))).append (Lists.one (RG.below (QC _ _))),hbW.alloc hbW.size _⟩
 exact QI):p:=h
theorem Qj6{p:Prop}(h:p:=by
 refine QF 24 ⟨some 155,.fieldAddr 228 (.tmp 154) 2,_,_,_,_⟩ ((.pointer (some ⟨J8,2,none⟩))) ?_;simp only[Act.put,QZ,QX,QY];refine QO (rs:=[25]) (by kernel_rfl) (by simp) ?_;refine QA (o:=⟨some 156,.load 26 (.tmp 155),_,_,_,_⟩) rfl (fun K hK=>?_) ?_
 ·go_simp
  refine hK.out _ _ (by assumption) (fun hHeld=>?_);clear hK K;refine QO (rs:=[26]) (by kernel_rfl) (by simp) ?_;refine QA (o:=⟨some 157,_,_,_,_,_⟩) rfl (fun K hK=>?_) ?_
  ·go_simp
   refine hK.out _ _ (XN ‹_› Z5 Z4 (QC _ _) (AY ‹_›)) (fun hHeld=>?_);clear hK K;refine QO (rs:=[27]) (by kernel_rfl) (by simp) ?_;refine QA (o:=⟨some 22,.assign (.tmp 157),_,_,_,_⟩) rfl (fun K hK=>?_) ?_
   ·go_simp
    refine hK.out _ _ (by assumption) (fun hHeld=>?_);clear hK K;refine XO (by kernel_rfl) ?_ _;have hbW:Below V4.heap.size V4 V8:=Y1 Wp;have RH:=ed.sl.below b11;have RG:=Wm.sl;go_wp2;go_meet;change∃us,Vs (V8.alloc (.cells #[.slice qJ qX qY,.slice Yi Yg Yh] 26)) (.slice (some ⟨V8.heap.size,0,none⟩) 2 2) us/\Lists (V8.alloc (.cells #[.slice qJ qX qY,.slice Yi Yg Yh] 26)) us _/\Below V4.heap.size V4 (V8.alloc (.cells #[.slice qJ qX qY,.slice Yi Yg Yh] 26));exact⟨[.slice qJ qX qY,.slice Yi Yg Yh],⟨_,2,2,rfl,rfl,by decide,by decide,YJ _ [.slice qJ qX qY,.slice Yi Yg Yh] _,fun h=>by simp at h⟩,(Lists.one (RH.below (QC _ _))).append (Lists.one (RG.below (QC _ _))),hbW.alloc hbW.size _⟩
   exact QI
  exact QI
 exact QI):p:=h
theorem Qj7{p:Prop}(h:p:=by
 clear hK K;refine QO (rs:=[27]) (by kernel_rfl) (by simp) ?_;refine QA (o:=⟨some 22,.assign (.tmp 157),_,_,_,_⟩) rfl (fun K hK=>?_) ?_
 ·go_simp
  refine hK.out _ _ (by assumption) (fun hHeld=>?_);clear hK K;refine XO (by kernel_rfl) ?_ _;have hbW:Below V4.heap.size V4 V8:=Y1 Wp;have RH:=ed.sl.below b11;have RG:=Wm.sl;go_wp2;go_meet;change∃us,Vs (V8.alloc (.cells #[.slice qJ qX qY,.slice Yi Yg Yh] 26)) (.slice (some ⟨V8.heap.size,0,none⟩) 2 2) us/\Lists (V8.alloc (.cells #[.slice qJ qX qY,.slice Yi Yg Yh] 26)) us _/\Below V4.heap.size V4 (V8.alloc (.cells #[.slice qJ qX qY,.slice Yi Yg Yh] 26));exact⟨[.slice qJ qX qY,.slice Yi Yg Yh],⟨_,2,2,rfl,rfl,by decide,by decide,YJ _ [.slice qJ qX qY,.slice Yi Yg Yh] _,fun h=>by simp at h⟩,(Lists.one (RH.below (QC _ _))).append (Lists.one (RG.below (QC _ _))),hbW.alloc hbW.size _⟩
 exact QI):p:=h
theorem Qj8{p:Prop}(h:p:=by
 simp only[Act.put,QZ,QX,QY];refine QO (rs:=[25]) (by kernel_rfl) (by simp) ?_;refine QA (o:=⟨some 156,.load 26 (.tmp 155),_,_,_,_⟩) rfl (fun K hK=>?_) ?_
 ·go_simp
  refine hK.out _ _ (by assumption) (fun hHeld=>?_);clear hK K;refine QO (rs:=[26]) (by kernel_rfl) (by simp) ?_;refine QA (o:=⟨some 157,_,_,_,_,_⟩) rfl (fun K hK=>?_) ?_
  ·go_simp
   refine hK.out _ _ (XN ‹_› Z5 Z4 (QC _ _) (AY ‹_›)) (fun hHeld=>?_);clear hK K;refine QO (rs:=[27]) (by kernel_rfl) (by simp) ?_;refine QA (o:=⟨some 22,.assign (.tmp 157),_,_,_,_⟩) rfl (fun K hK=>?_) ?_
   ·go_simp
    refine hK.out _ _ (by assumption) (fun hHeld=>?_);clear hK K;refine XO (by kernel_rfl) ?_ _;have hbW:Below V4.heap.size V4 V8:=Y1 Wp;have RH:=ed.sl.below b11;have RG:=Wm.sl;go_wp2;go_meet;change∃us,Vs (V8.alloc (.cells #[.slice qJ qX qY,.slice Yi Yg Yh] 26)) (.slice (some ⟨V8.heap.size,0,none⟩) 2 2) us/\Lists (V8.alloc (.cells #[.slice qJ qX qY,.slice Yi Yg Yh] 26)) us _/\Below V4.heap.size V4 (V8.alloc (.cells #[.slice qJ qX qY,.slice Yi Yg Yh] 26));exact⟨[.slice qJ qX qY,.slice Yi Yg Yh],⟨_,2,2,rfl,rfl,by decide,by decide,YJ _ [.slice qJ qX qY,.slice Yi Yg Yh] _,fun h=>by simp at h⟩,(Lists.one (RH.below (QC _ _))).append (Lists.one (RG.below (QC _ _))),hbW.alloc hbW.size _⟩
   exact QI
  exact QI
 exact QI):p:=h
theorem Qj9{p:Prop}(h:p:=by
 refine QO (rs:=[27]) (by kernel_rfl) (by simp) ?_;refine QA (o:=⟨some 22,.assign (.tmp 157),_,_,_,_⟩) rfl (fun K hK=>?_) ?_
 ·go_simp
  refine hK.out _ _ (by assumption) (fun hHeld=>?_);clear hK K;refine XO (by kernel_rfl) ?_ _;have hbW:Below V4.heap.size V4 V8:=Y1 Wp;have RH:=ed.sl.below b11;have RG:=Wm.sl;go_wp2;go_meet;change∃us,Vs (V8.alloc (.cells #[.slice qJ qX qY,.slice Yi Yg Yh] 26)) (.slice (some ⟨V8.heap.size,0,none⟩) 2 2) us/\Lists (V8.alloc (.cells #[.slice qJ qX qY,.slice Yi Yg Yh] 26)) us _/\Below V4.heap.size V4 (V8.alloc (.cells #[.slice qJ qX qY,.slice Yi Yg Yh] 26));exact⟨[.slice qJ qX qY,.slice Yi Yg Yh],⟨_,2,2,rfl,rfl,by decide,by decide,YJ _ [.slice qJ qX qY,.slice Yi Yg Yh] _,fun h=>by simp at h⟩,(Lists.one (RH.below (QC _ _))).append (Lists.one (RG.below (QC _ _))),hbW.alloc hbW.size _⟩
 exact QI):p:=h
theorem Qjw{p:Prop}(h:p:=by
 have hno:WB c.d=none->c'=c:=fun hn=>by rw[<-e1];exact zT h0 hn
 have HS:=QQ hS;have zX:=QQ e1;have Yr:=QQ hno;clear CS hS e1 hc' hno h0;rcases hk:WB c.d with _|pq
 ·rw[hk]at HS
  have SH:(none:Option (Int×Int)).isSome=false:=rfl;have HK:=QQ hk;clear hk;go_wp2_with (go_at_call 247;refine(HS.out _).mono ?_;rintro e w8 ⟨rfl,ZU⟩;have Vu:=QQ ZU;clear ZU)
  go_meet;exact⟨rfl,⟨us,by have e:cm=s.cm:=by {rw[<-HL.out,zX.out,Yr.out HK.out,<-HC.out]};rw[e];exact(HX.out.to Vu.out).alloc _⟩,(Z6.of Vu.out).trans (Z6.of (QC _ _))⟩
 ·rw[hk]at HS
  have SH:(some pq:Option (Int×Int)).isSome=true:=rfl;clear hk;go_wp2_with (go_at_call 247;refine(HS.out _).mono ?_;rintro e w8 ⟨rfl,ZU⟩;have Xp:=HX.out.to ZU;have g29:=Xp.XY;have g30:=Xp.Jl;have g31:=Xp.c31;have g32:=Xp.c32;have g33:=Xp.JA;have k29:=Xp.free 29;have lM:=Xp.free 30;have lL:=Xp.free 31;have k32:=Xp.free 32;have k33:=Xp.free 33;have Hr:=Xp.lt;have MH:=QQ Xp;have Vu:=QQ ZU;clear ZU Xp)
  go_meet;exact⟨rfl,⟨_,by have e:cm=c':=HL.out.symm.trans zX.out;rw[e];exact(MH.out.zu c').alloc _⟩,((Z6.of Vu.out).trans (Z6.setCells c'.cells)).trans (Z6.of (QC _ _))⟩):p:=h
theorem QkQ{p:Prop}(h:p:=by
 refine QA (o:=⟨some 22,.assign (.tmp 157),_,_,_,_⟩) rfl (fun K hK=>?_) ?_
 ·go_simp
  refine hK.out _ _ (by assumption) (fun hHeld=>?_);clear hK K;refine XO (by kernel_rfl) ?_ _;have hbW:Below V4.heap.size V4 V8:=Y1 Wp;have RH:=ed.sl.below b11;have RG:=Wm.sl;go_wp2;go_meet;change∃us,Vs (V8.alloc (.cells #[.slice qJ qX qY,.slice Yi Yg Yh] 26)) (.slice (some ⟨V8.heap.size,0,none⟩) 2 2) us/\Lists (V8.alloc (.cells #[.slice qJ qX qY,.slice Yi Yg Yh] 26)) us _/\Below V4.heap.size V4 (V8.alloc (.cells #[.slice qJ qX qY,.slice Yi Yg Yh] 26));exact⟨[.slice qJ qX qY,.slice Yi Yg Yh],⟨_,2,2,rfl,rfl,by decide,by decide,YJ _ [.slice qJ qX qY,.slice Yi Yg Yh] _,fun h=>by simp at h⟩,(Lists.one (RH.below (QC _ _))).append (Lists.one (RG.below (QC _ _))),hbW.alloc hbW.size _⟩
 exact QI):p:=h
theorem QkZ{p:Prop}(h:p:=by
 have HS:=QQ hS;have zX:=QQ e1;have Yr:=QQ hno;clear CS hS e1 hc' hno h0;rcases hk:WB c.d with _|pq
 ·rw[hk]at HS
  have SH:(none:Option (Int×Int)).isSome=false:=rfl;have HK:=QQ hk;clear hk;go_wp2_with (go_at_call 247;refine(HS.out _).mono ?_;rintro e w8 ⟨rfl,ZU⟩;have Vu:=QQ ZU;clear ZU)
  go_meet;exact⟨rfl,⟨us,by have e:cm=s.cm:=by {rw[<-HL.out,zX.out,Yr.out HK.out,<-HC.out]};rw[e];exact(HX.out.to Vu.out).alloc _⟩,(Z6.of Vu.out).trans (Z6.of (QC _ _))⟩
 ·rw[hk]at HS
  have SH:(some pq:Option (Int×Int)).isSome=true:=rfl;clear hk;go_wp2_with (go_at_call 247;refine(HS.out _).mono ?_;rintro e w8 ⟨rfl,ZU⟩;have Xp:=HX.out.to ZU;have g29:=Xp.XY;have g30:=Xp.Jl;have g31:=Xp.c31;have g32:=Xp.c32;have g33:=Xp.JA;have k29:=Xp.free 29;have lM:=Xp.free 30;have lL:=Xp.free 31;have k32:=Xp.free 32;have k33:=Xp.free 33;have Hr:=Xp.lt;have MH:=QQ Xp;have Vu:=QQ ZU;clear ZU Xp)
  go_meet;exact⟨rfl,⟨_,by have e:cm=c':=HL.out.symm.trans zX.out;rw[e];exact(MH.out.zu c').alloc _⟩,((Z6.of Vu.out).trans (Z6.setCells c'.cells)).trans (Z6.of (QC _ _))⟩):p:=h
theorem QkX{p:Prop}(h:p:=by
 have zX:=QQ e1;have Yr:=QQ hno;clear CS hS e1 hc' hno h0;rcases hk:WB c.d with _|pq
 ·rw[hk]at HS
  have SH:(none:Option (Int×Int)).isSome=false:=rfl;have HK:=QQ hk;clear hk;go_wp2_with (go_at_call 247;refine(HS.out _).mono ?_;rintro e w8 ⟨rfl,ZU⟩;have Vu:=QQ ZU;clear ZU)
  go_meet;exact⟨rfl,⟨us,by have e:cm=s.cm:=by {rw[<-HL.out,zX.out,Yr.out HK.out,<-HC.out]};rw[e];exact(HX.out.to Vu.out).alloc _⟩,(Z6.of Vu.out).trans (Z6.of (QC _ _))⟩
 ·rw[hk]at HS
  have SH:(some pq:Option (Int×Int)).isSome=true:=rfl;clear hk;go_wp2_with (go_at_call 247;refine(HS.out _).mono ?_;rintro e w8 ⟨rfl,ZU⟩;have Xp:=HX.out.to ZU;have g29:=Xp.XY;have g30:=Xp.Jl;have g31:=Xp.c31;have g32:=Xp.c32;have g33:=Xp.JA;have k29:=Xp.free 29;have lM:=Xp.free 30;have lL:=Xp.free 31;have k32:=Xp.free 32;have k33:=Xp.free 33;have Hr:=Xp.lt;have MH:=QQ Xp;have Vu:=QQ ZU;clear ZU Xp)
  go_meet;exact⟨rfl,⟨_,by have e:cm=c':=HL.out.symm.trans zX.out;rw[e];exact(MH.out.zu c').alloc _⟩,((Z6.of Vu.out).trans (Z6.setCells c'.cells)).trans (Z6.of (QC _ _))⟩):p:=h
theorem QkY{p:Prop}(h:p:=by
 have Yr:=QQ hno;clear CS hS e1 hc' hno h0;rcases hk:WB c.d with _|pq
 ·rw[hk]at HS
  have SH:(none:Option (Int×Int)).isSome=false:=rfl;have HK:=QQ hk;clear hk;go_wp2_with (go_at_call 247;refine(HS.out _).mono ?_;rintro e w8 ⟨rfl,ZU⟩;have Vu:=QQ ZU;clear ZU)
  go_meet;exact⟨rfl,⟨us,by have e:cm=s.cm:=by {rw[<-HL.out,zX.out,Yr.out HK.out,<-HC.out]};rw[e];exact(HX.out.to Vu.out).alloc _⟩,(Z6.of Vu.out).trans (Z6.of (QC _ _))⟩
 ·rw[hk]at HS
  have SH:(some pq:Option (Int×Int)).isSome=true:=rfl;clear hk;go_wp2_with (go_at_call 247;refine(HS.out _).mono ?_;rintro e w8 ⟨rfl,ZU⟩;have Xp:=HX.out.to ZU;have g29:=Xp.XY;have g30:=Xp.Jl;have g31:=Xp.c31;have g32:=Xp.c32;have g33:=Xp.JA;have k29:=Xp.free 29;have lM:=Xp.free 30;have lL:=Xp.free 31;have k32:=Xp.free 32;have k33:=Xp.free 33;have Hr:=Xp.lt;have MH:=QQ Xp;have Vu:=QQ ZU;clear ZU Xp)
  go_meet;exact⟨rfl,⟨_,by have e:cm=c':=HL.out.symm.trans zX.out;rw[e];exact(MH.out.zu c').alloc _⟩,((Z6.of Vu.out).trans (Z6.setCells c'.cells)).trans (Z6.of (QC _ _))⟩):p:=h
theorem QkJ{p:Prop}(h:p:=by
 clear CS hS e1 hc' hno h0;rcases hk:WB c.d with _|pq
 ·rw[hk]at HS
  have SH:(none:Option (Int×Int)).isSome=false:=rfl;have HK:=QQ hk;clear hk;go_wp2_with (go_at_call 247;refine(HS.out _).mono ?_;rintro e w8 ⟨rfl,ZU⟩;have Vu:=QQ ZU;clear ZU)
  go_meet;exact⟨rfl,⟨us,by have e:cm=s.cm:=by {rw[<-HL.out,zX.out,Yr.out HK.out,<-HC.out]};rw[e];exact(HX.out.to Vu.out).alloc _⟩,(Z6.of Vu.out).trans (Z6.of (QC _ _))⟩
 ·rw[hk]at HS
  have SH:(some pq:Option (Int×Int)).isSome=true:=rfl;clear hk;go_wp2_with (go_at_call 247;refine(HS.out _).mono ?_;rintro e w8 ⟨rfl,ZU⟩;have Xp:=HX.out.to ZU;have g29:=Xp.XY;have g30:=Xp.Jl;have g31:=Xp.c31;have g32:=Xp.c32;have g33:=Xp.JA;have k29:=Xp.free 29;have lM:=Xp.free 30;have lL:=Xp.free 31;have k32:=Xp.free 32;have k33:=Xp.free 33;have Hr:=Xp.lt;have MH:=QQ Xp;have Vu:=QQ ZU;clear ZU Xp)
  go_meet;exact⟨rfl,⟨_,by have e:cm=c':=HL.out.symm.trans zX.out;rw[e];exact(MH.out.zu c').alloc _⟩,((Z6.of Vu.out).trans (Z6.setCells c'.cells)).trans (Z6.of (QC _ _))⟩):p:=h
theorem QkK{p:Prop}(h:p:=by
 rcases hk:WB c.d with _|pq
 ·rw[hk]at HS
  have SH:(none:Option (Int×Int)).isSome=false:=rfl;have HK:=QQ hk;clear hk;go_wp2_with (go_at_call 247;refine(HS.out _).mono ?_;rintro e w8 ⟨rfl,ZU⟩;have Vu:=QQ ZU;clear ZU)
  go_meet;exact⟨rfl,⟨us,by have e:cm=s.cm:=by {rw[<-HL.out,zX.out,Yr.out HK.out,<-HC.out]};rw[e];exact(HX.out.to Vu.out).alloc _⟩,(Z6.of Vu.out).trans (Z6.of (QC _ _))⟩
 ·rw[hk]at HS
  have SH:(some pq:Option (Int×Int)).isSome=true:=rfl;clear hk;go_wp2_with (go_at_call 247;refine(HS.out _).mono ?_;rintro e w8 ⟨rfl,ZU⟩;have Xp:=HX.out.to ZU;have g29:=Xp.XY;have g30:=Xp.Jl;have g31:=Xp.c31;have g32:=Xp.c32;have g33:=Xp.JA;have k29:=Xp.free 29;have lM:=Xp.free 30;have lL:=Xp.free 31;have k32:=Xp.free 32;have k33:=Xp.free 33;have Hr:=Xp.lt;have MH:=QQ Xp;have Vu:=QQ ZU;clear ZU Xp)
  go_meet;exact⟨rfl,⟨_,by have e:cm=c':=HL.out.symm.trans zX.out;rw[e];exact(MH.out.zu c').alloc _⟩,((Z6.of Vu.out).trans (Z6.setCells c'.cells)).trans (Z6.of (QC _ _))⟩):p:=h
theorem QkU{p:Prop}(h:p:=by
 refine hK.out _ _ (by assumption) (fun hHeld=>?_);clear hK K;refine XO (by kernel_rfl) ?_ _;have hbW:Below V4.heap.size V4 V8:=Y1 Wp;have RH:=ed.sl.below b11;have RG:=Wm.sl;go_wp2;go_meet;change∃us,Vs (V8.alloc (.cells #[.slice qJ qX qY,.slice Yi Yg Yh] 26)) (.slice (some ⟨V8.heap.size,0,none⟩) 2 2) us/\Lists (V8.alloc (.cells #[.slice qJ qX qY,.slice Yi Yg Yh] 26)) us _/\Below V4.heap.size V4 (V8.alloc (.cells #[.slice qJ qX qY,.slice Yi Yg Yh] 26));exact⟨[.slice qJ qX qY,.slice Yi Yg Yh],⟨_,2,2,rfl,rfl,by decide,by decide,YJ _ [.slice qJ qX qY,.slice Yi Yg Yh] _,fun h=>by simp at h⟩,(Lists.one (RH.below (QC _ _))).append (Lists.one (RG.below (QC _ _))),hbW.alloc hbW.size _⟩):p:=h
theorem QkV{p:Prop}(h:p:=by
 have hX:=KJ.start w f r o s 0;obtain⟨b1,b2,b3,b4,b5⟩:=YR hp;have HP:=QQ hp;clear hp;rw[KU hu,hk,if_neg (by omega),if_pos (by omega)];have u1:32<=key:=by unfold XX at hu;omega
 have u2:(key==127)=false:=by unfold XX at hu;simp;omega
 clear hu;have HK:=QQ hk;clear hk;go_enter Tryz.func89,Tryz.ntmps89
 go_wp2_with (first|(go_at_call 17;refine(Zt _ _ _ _ _ _).mono ?_;rintro e w9 ⟨rfl,hb⟩;rw[HP.out];have hX1:=hX.below hb;obtain⟨c0,c1,c2,c3,c4⟩:=hX1.p.five;obtain⟨g0,g1,g2,g3,g4⟩:=hX1.p.Qf;obtain⟨k0,k1,k2,k3,k4⟩:=hX1.q.five;obtain⟨l0,l1,l2,l3,l4⟩:=hX1.q.Qf;obtain⟨m0,m1,m2,m3,m4⟩:=hX1.c.five;obtain⟨n0,n1,n2,n3,n4⟩:=hX1.c.Qf)|(go_at_call 138;refine(XB _ _ _ _ _ _ _).mono ?_;rintro e w8 ⟨rfl,hb2⟩;rw[HK.out];have hX2:=hX1.below hb2;obtain⟨c0,c1,c2,c3,c4⟩:=hX2.p.five;obtain⟨g0,g1,g2,g3,g4⟩:=hX2.p.Qf;obtain⟨k0,k1,k2,k3,k4⟩:=hX2.q.five;obtain⟨l0,l1,l2,l3,l4⟩:=hX2.q.Qf;obtain⟨m0,m1,m2,m3,m4⟩:=hX2.c.five;obtain⟨n0,n1,n2,n3,n4⟩:=hX2.c.Qf))
 obtain⟨hq,hc,hbel⟩:=(hX2.Gi (f':=f) (r':=r) (o':=o) (s':=s) (bC:=key) 4 (.int .i64 key) rfl).done (.int .i64 (f)) (.int .i64 (r)) (.int .i64 (o)) (.int .i64 (s)) (.int .i64 (key)) (.int .i64 (0)) (.int .i64 (0)) (.int .i64 (0)) (.int .i64 (0)) (.int .i64 (0)) rfl;obtain⟨y0,y1,y2,y3,y4⟩:=hq.five;obtain⟨z0,z1,z2,z3,z4⟩:=hc.five;exact QV (v:=.tuple #[(TK.more f r o s key).q,(TK.more f r o s key).c,.int .i64 1,.int .i64 0]) (by simp[results,Tryz.results89,go_sem,TK.more,TK.q,TK.c,y0,y1,y2,y3,y4,z0,z1,z2,z3,z4]) rfl (ZX.of hbel)):p:=h
theorem QkW{p:Prop}(h:p:=by
 clear hK K;refine XO (by kernel_rfl) ?_ _;have hbW:Below V4.heap.size V4 V8:=Y1 Wp;have RH:=ed.sl.below b11;have RG:=Wm.sl;go_wp2;go_meet;change∃us,Vs (V8.alloc (.cells #[.slice qJ qX qY,.slice Yi Yg Yh] 26)) (.slice (some ⟨V8.heap.size,0,none⟩) 2 2) us/\Lists (V8.alloc (.cells #[.slice qJ qX qY,.slice Yi Yg Yh] 26)) us _/\Below V4.heap.size V4 (V8.alloc (.cells #[.slice qJ qX qY,.slice Yi Yg Yh] 26));exact⟨[.slice qJ qX qY,.slice Yi Yg Yh],⟨_,2,2,rfl,rfl,by decide,by decide,YJ _ [.slice qJ qX qY,.slice Yi Yg Yh] _,fun h=>by simp at h⟩,(Lists.one (RH.below (QC _ _))).append (Lists.one (RG.below (QC _ _))),hbW.alloc hbW.size _⟩):p:=h
theorem Qkq{p:Prop}(h:p:=by
 refine XO (by kernel_rfl) ?_ _;have hbW:Below V4.heap.size V4 V8:=Y1 Wp;have RH:=ed.sl.below b11;have RG:=Wm.sl;go_wp2;go_meet;change∃us,Vs (V8.alloc (.cells #[.slice qJ qX qY,.slice Yi Yg Yh] 26)) (.slice (some ⟨V8.heap.size,0,none⟩) 2 2) us/\Lists (V8.alloc (.cells #[.slice qJ qX qY,.slice Yi Yg Yh] 26)) us _/\Below V4.heap.size V4 (V8.alloc (.cells #[.slice qJ qX qY,.slice Yi Yg Yh] 26));exact⟨[.slice qJ qX qY,.slice Yi Yg Yh],⟨_,2,2,rfl,rfl,by decide,by decide,YJ _ [.slice qJ qX qY,.slice Yi Yg Yh] _,fun h=>by simp at h⟩,(Lists.one (RH.below (QC _ _))).append (Lists.one (RG.below (QC _ _))),hbW.alloc hbW.size _⟩):p:=h
theorem Qkz{p:Prop}(h:p:=by
 have hbW:Below V4.heap.size V4 V8:=Y1 Wp;have RH:=ed.sl.below b11;have RG:=Wm.sl;go_wp2;go_meet;change∃us,Vs (V8.alloc (.cells #[.slice qJ qX qY,.slice Yi Yg Yh] 26)) (.slice (some ⟨V8.heap.size,0,none⟩) 2 2) us/\Lists (V8.alloc (.cells #[.slice qJ qX qY,.slice Yi Yg Yh] 26)) us _/\Below V4.heap.size V4 (V8.alloc (.cells #[.slice qJ qX qY,.slice Yi Yg Yh] 26));exact⟨[.slice qJ qX qY,.slice Yi Yg Yh],⟨_,2,2,rfl,rfl,by decide,by decide,YJ _ [.slice qJ qX qY,.slice Yi Yg Yh] _,fun h=>by simp at h⟩,(Lists.one (RH.below (QC _ _))).append (Lists.one (RG.below (QC _ _))),hbW.alloc hbW.size _⟩):p:=h
theorem Qkx{p:Prop}(h:p:=by
 have K7:=(kF.other (a:=⟨w6.heap.size,4,none⟩) (by show w.heap.size+1≠w6.heap.size;omega) (.slice a7 n7 c7)).other (a:=⟨w6.heap.size,5,none⟩) (by show w.heap.size+1≠w6.heap.size;omega) (.bool false);have hG:=((((((K7.set 0 (.slice ra rn rc)).set 1 (.int .i64 M)).set 2 (.int .i64 (k:Int))).set 3 (.slice ta tn tc)).set 4 (.slice a7 n7 c7)).set 5 (.bool false));simp only[QZ,QX,QY]at hG;obtain⟨y0,y1,y2,y3,y4,y5⟩:=hG.six;obtain⟨nvs,hnv⟩:∃v,DD=v:=⟨_,rfl⟩;refine QV (v:=.tuple #[.agg (Zc (.slice ra rn rc) M (k:Int) (.slice ta tn tc) (.slice a7 n7 c7) false),DD,.int .i64 0]) (by simp[results,Tryz.results132,go_sem,y0,y1,y2,y3,y4,y5,Zc]) rfl ?_;have hk0:Below w6.heap.size w6 w7:=QW (QC w6 _) (by simp) qU;have xw:=bW.out.below hk0;have hwb:=bq.out.below hk0;have hst:=fun(w':World) (hc:∀p v,(w5.heap.size<=p.block/\p.block<w6.heap.size)->w7.cell? p=some v->w'.cell? p=some v)=>And.intro (xw.keep hc) (hwb.keep hc)
 have hown:=WT.mono (base':=w.heap.size+2) (by simp;omega);have hk:=fun(p:Addr) (v:Value) (hp:w5.heap.size<=p.block/\p.block<w6.heap.size) (hc:w7.cell? p=some v)=>
  Qa (Qa (Qa (Qa (Qa (Qa (Qa (Qa hc
   (a:=⟨w6.heap.size,4,none⟩) (u:=.slice a7 n7 c7) (by show p.block≠w6.heap.size;omega))
   (a:=⟨w6.heap.size,5,none⟩) (u:=.bool false) (by show p.block≠w6.heap.size;omega))
   (a:=⟨w.heap.size+1,0,none⟩) (u:=.slice ra rn rc) (by show p.block≠w.heap.size+1;omega))
   (a:=⟨w.heap.size+1,1,none⟩) (u:=.int .i64 M) (by show p.block≠w.heap.size+1;omega))
   (a:=⟨w.heap.size+1,2,none⟩) (u:=.int .i64 (k:Int)) (by show p.block≠w.heap.size+1;omega))
   (a:=⟨w.heap.size+1,3,none⟩) (u:=.slice ta tn tc) (by show p.block≠w.heap.size+1;omega))
   (a:=⟨w.heap.size+1,4,none⟩) (u:=.slice a7 n7 c7) (by show p.block≠w.heap.size+1;omega))
   (a:=⟨w.heap.size+1,5,none⟩) (u:=.bool false) (by show p.block≠w.heap.size+1;omega)
 obtain⟨hA,fG⟩:=hst _ hk;have hO:=((((((((WT.setCell (a:=⟨w6.heap.size,4,none⟩) (by simp) (.slice a7 n7 c7)).setCell (a:=⟨w6.heap.size,5,none⟩) (by simp) (.bool false)).mono (base':=w.heap.size+2) (by simp;omega)).setCell (a:=⟨w.heap.size+1,0,none⟩) (Qq _) (.slice ra rn rc)).setCell (a:=⟨w.heap.size+1,1,none⟩) (Qq _) (.int .i64 M)).setCell (a:=⟨w.heap.size+1,2,none⟩) (Qq _) (.int .i64 (k:Int))).setCell (a:=⟨w.heap.size+1,3,none⟩) (Qq _) (.slice ta tn tc)).setCell (a:=⟨w.heap.size+1,4,none⟩) (Qq _) (.slice a7 n7 c7)).setCell (a:=⟨w.heap.size+1,5,none⟩) (Qq _) (.bool false);have kD:Below w.heap.size w w7:=QW (QW Xh (by omega) hb6) (by omega) hk0;have kC:=(kD.setCell (p:=⟨w6.heap.size,4,none⟩) (by show w.heap.size<=w6.heap.size;omega) (.slice a7 n7 c7)).setCell (p:=⟨w6.heap.size,5,none⟩) (by show w.heap.size<=w6.heap.size;omega) (.bool false);obtain⟨vsA,g1,g2⟩:=hA.ls;refine .inl ⟨k,⟨by show k<ls.length;rw[Kt.out];exact hkl,hfit,by simp only[YE,if_true,ZM,Qb];omega,fun j hj hs hb=>?_⟩,.slice ra rn rc,.slice ta tn tc,.slice a7 n7 c7,DD,rfl,⟨⟨vsA,g1.imp (fun k hk=>by omega),g2.imp (fun _ _ h=>h.imp (fun k hk=>by omega))⟩,rfl,rfl,hA.Qm.imp (fun k hk=>by omega),hO.xB.imp (fun k hk=>by omega),rfl⟩,fG.imp (fun k hk=>by omega),((((((kC.setCell (p:=⟨w.heap.size+1,0,none⟩) (QK _) _).setCell (p:=⟨w.heap.size+1,1,none⟩) (QK _) _).setCell (p:=⟨w.heap.size+1,2,none⟩) (QK _) _).setCell (p:=⟨w.heap.size+1,3,none⟩) (QK _) _).setCell (p:=⟨w.heap.size+1,4,none⟩) (QK _) _).setCell (p:=⟨w.heap.size+1,5,none⟩) (QK _) _)⟩;exact Yr.out j (by rw[<-Kt.out];exact hj) hs (by simp only[if_true,ZM,Qb]at hb;omega)):p:=h
theorem Qky{p:Prop}(h:p:=by
 have K7:=(kF.other (a:=⟨w6.heap.size,4,none⟩) (by show w.heap.size+1≠w6.heap.size;omega) (.slice a7 n7 c7)).other (a:=⟨w6.heap.size,5,none⟩) (by show w.heap.size+1≠w6.heap.size;omega) (.bool true);have hG:=((((((K7.set 0 (.slice ra rn rc)).set 1 (.int .i64 M)).set 2 (.int .i64 (k:Int))).set 3 (.slice ta tn tc)).set 4 (.slice a7 n7 c7)).set 5 (.bool true));simp only[QZ,QX,QY]at hG;obtain⟨y0,y1,y2,y3,y4,y5⟩:=hG.six;obtain⟨nvs,hnv⟩:∃v,DD=v:=⟨_,rfl⟩;refine QV (v:=.tuple #[.agg (Zc (.slice ra rn rc) M (k:Int) (.slice ta tn tc) (.slice a7 n7 c7) true),DD,.int .i64 0]) (by simp[results,Tryz.results132,go_sem,y0,y1,y2,y3,y4,y5,Zc]) rfl ?_;have hk0:Below w6.heap.size w6 w7:=QW (QC w6 _) (by simp) qU;have xw:=bW.out.below hk0;have hwb:=bq.out.below hk0;have hst:=fun(w':World) (hc:∀p v,(w5.heap.size<=p.block/\p.block<w6.heap.size)->w7.cell? p=some v->w'.cell? p=some v)=>And.intro (xw.keep hc) (hwb.keep hc)
 have hown:=WT.mono (base':=w.heap.size+2) (by simp;omega);have hk:=fun(p:Addr) (v:Value) (hp:w5.heap.size<=p.block/\p.block<w6.heap.size) (hc:w7.cell? p=some v)=>
  Qa (Qa (Qa (Qa (Qa (Qa (Qa (Qa hc
   (a:=⟨w6.heap.size,4,none⟩) (u:=.slice a7 n7 c7) (by show p.block≠w6.heap.size;omega))
   (a:=⟨w6.heap.size,5,none⟩) (u:=.bool true) (by show p.block≠w6.heap.size;omega))
   (a:=⟨w.heap.size+1,0,none⟩) (u:=.slice ra rn rc) (by show p.block≠w.heap.size+1;omega))
   (a:=⟨w.heap.size+1,1,none⟩) (u:=.int .i64 M) (by show p.block≠w.heap.size+1;omega))
   (a:=⟨w.heap.size+1,2,none⟩) (u:=.int .i64 (k:Int)) (by show p.block≠w.heap.size+1;omega))
   (a:=⟨w.heap.size+1,3,none⟩) (u:=.slice ta tn tc) (by show p.block≠w.heap.size+1;omega))
   (a:=⟨w.heap.size+1,4,none⟩) (u:=.slice a7 n7 c7) (by show p.block≠w.heap.size+1;omega))
   (a:=⟨w.heap.size+1,5,none⟩) (u:=.bool true) (by show p.block≠w.heap.size+1;omega)
 obtain⟨hA,fG⟩:=hst _ hk;have hO:=((((((((WT.setCell (a:=⟨w6.heap.size,4,none⟩) (by simp) (.slice a7 n7 c7)).setCell (a:=⟨w6.heap.size,5,none⟩) (by simp) (.bool true)).mono (base':=w.heap.size+2) (by simp;omega)).setCell (a:=⟨w.heap.size+1,0,none⟩) (Qq _) (.slice ra rn rc)).setCell (a:=⟨w.heap.size+1,1,none⟩) (Qq _) (.int .i64 M)).setCell (a:=⟨w.heap.size+1,2,none⟩) (Qq _) (.int .i64 (k:Int))).setCell (a:=⟨w.heap.size+1,3,none⟩) (Qq _) (.slice ta tn tc)).setCell (a:=⟨w.heap.size+1,4,none⟩) (Qq _) (.slice a7 n7 c7)).setCell (a:=⟨w.heap.size+1,5,none⟩) (Qq _) (.bool true);have kD:Below w.heap.size w w7:=QW (QW Xh (by omega) hb6) (by omega) hk0;have kC:=(kD.setCell (p:=⟨w6.heap.size,4,none⟩) (by show w.heap.size<=w6.heap.size;omega) (.slice a7 n7 c7)).setCell (p:=⟨w6.heap.size,5,none⟩) (by show w.heap.size<=w6.heap.size;omega) (.bool true);obtain⟨vsA,g1,g2⟩:=hA.ls;refine .inl ⟨k,⟨by show k<ls.length;rw[Kt.out];exact hkl,hfit,by simp only[YE,if_true,ZM,Qb];omega,fun j hj hs hb=>?_⟩,.slice ra rn rc,.slice ta tn tc,.slice a7 n7 c7,DD,rfl,⟨⟨vsA,g1.imp (fun k hk=>by omega),g2.imp (fun _ _ h=>h.imp (fun k hk=>by omega))⟩,rfl,rfl,hA.Qm.imp (fun k hk=>by omega),hO.xB.imp (fun k hk=>by omega),rfl⟩,fG.imp (fun k hk=>by omega),((((((kC.setCell (p:=⟨w.heap.size+1,0,none⟩) (QK _) _).setCell (p:=⟨w.heap.size+1,1,none⟩) (QK _) _).setCell (p:=⟨w.heap.size+1,2,none⟩) (QK _) _).setCell (p:=⟨w.heap.size+1,3,none⟩) (QK _) _).setCell (p:=⟨w.heap.size+1,4,none⟩) (QK _) _).setCell (p:=⟨w.heap.size+1,5,none⟩) (QK _) _)⟩;exact Yr.out j (by rw[<-Kt.out];exact hj) hs (by simp only[if_true,ZM,Qb]at hb;omega)):p:=h
theorem Qkj{p:Prop}(h:p:=by
 go_enter Tryz.func290,Tryz.ntmps290
 go_wp2;rw[HR.out];have hG:=(hP.set 0 (.int .i64 (0))).set 1 (.bool false);obtain⟨q0,q1,-,-⟩:=QD.two hG;refine QV (v:=.tuple #[.agg #[.int .i64 (0),.bool false],.int .i64 5]) (by simp[results,Tryz.results290,go_sem,q0,q1]) rfl ⟨rfl,?_⟩;first|exact(hacc.setCell (p:=⟨w.heap.size+1,0,none⟩) (QK _) _).setCell (p:=⟨w.heap.size+1,1,none⟩) (QK _) _|exact QS _ _ _):p:=h
theorem Qkk{p:Prop}(h:p:=by
 have RH:=ed.sl.below b11;have RG:=Wm.sl;go_wp2;go_meet;change∃us,Vs (V8.alloc (.cells #[.slice qJ qX qY,.slice Yi Yg Yh] 26)) (.slice (some ⟨V8.heap.size,0,none⟩) 2 2) us/\Lists (V8.alloc (.cells #[.slice qJ qX qY,.slice Yi Yg Yh] 26)) us _/\Below V4.heap.size V4 (V8.alloc (.cells #[.slice qJ qX qY,.slice Yi Yg Yh] 26));exact⟨[.slice qJ qX qY,.slice Yi Yg Yh],⟨_,2,2,rfl,rfl,by decide,by decide,YJ _ [.slice qJ qX qY,.slice Yi Yg Yh] _,fun h=>by simp at h⟩,(Lists.one (RH.below (QC _ _))).append (Lists.one (RG.below (QC _ _))),hbW.alloc hbW.size _⟩):p:=h
theorem Qku{p:Prop}(h:p:=by
 go_region_held3 (fun w'=>w'.cell? ⟨P,0,none⟩=some (.slice I.a I.n I.c)/\w'.cell? ⟨P,29,none⟩=some (.int .i64 (N:Int))/\w'.cell? ⟨w.heap.size,0,none⟩=some (.pointer (some ⟨P,0,none⟩))) (first|exact⟨c0,XY,e0⟩|assumption) (fail)
 all_goals
  go_wp2;go_meet;exact⟨rfl,rfl,rfl⟩):p:=h
theorem Qkv{p:Prop}(h:p:=by
 go_region_held3 (fun w'=>w'.cell? ⟨P,0,none⟩=some (.slice I.a I.n I.c)/\w'.cell? ⟨P,29,none⟩=some (.int .i64 0)/\w'.cell? ⟨w.heap.size,0,none⟩=some (.pointer (some ⟨P,0,none⟩))) (first|exact⟨c0,XY,e0⟩|assumption) (fail)
 all_goals
  go_wp2;go_meet;exact⟨rfl,rfl,rfl⟩):p:=h
theorem QkA{p:Prop}(h:p:=by
 go_region_held3 (fun w'=>w'.cell? ⟨P,0,none⟩=some (.slice I.a I.n I.c)/\w'.cell? ⟨P,29,none⟩=some (.int .i64 1)/\w'.cell? ⟨w.heap.size,0,none⟩=some (.pointer (some ⟨P,0,none⟩))) (first|exact⟨c0,XY,e0⟩|assumption) (fail)
 all_goals
  go_wp2;go_meet;exact⟨rfl,rfl,rfl⟩):p:=h
theorem QkB{p:Prop}(h:p:=by
 have RG:=Wm.sl;go_wp2;go_meet;change∃us,Vs (V8.alloc (.cells #[.slice qJ qX qY,.slice Yi Yg Yh] 26)) (.slice (some ⟨V8.heap.size,0,none⟩) 2 2) us/\Lists (V8.alloc (.cells #[.slice qJ qX qY,.slice Yi Yg Yh] 26)) us _/\Below V4.heap.size V4 (V8.alloc (.cells #[.slice qJ qX qY,.slice Yi Yg Yh] 26));exact⟨[.slice qJ qX qY,.slice Yi Yg Yh],⟨_,2,2,rfl,rfl,by decide,by decide,YJ _ [.slice qJ qX qY,.slice Yi Yg Yh] _,fun h=>by simp at h⟩,(Lists.one (RH.below (QC _ _))).append (Lists.one (RG.below (QC _ _))),hbW.alloc hbW.size _⟩):p:=h
theorem QkC{p:Prop}(h:p:=by
 first|exact(Qc.setCell (p:=⟨w.heap.size+1,0,none⟩) (QK _) _).setCell (p:=⟨w.heap.size+1,1,none⟩) (QK _) _|exact QS _ _ _):p:=h
theorem QkD{p:Prop}(h:p:=by
 go_enter Tryz.func89,Tryz.ntmps89
 go_wp2_with (first|(go_at_call 17;refine(Zt _ _ _ _ _ _).mono ?_;rintro e w9 ⟨rfl,hb⟩;rw[HP.out];have hX1:=hX.below hb;obtain⟨c0,c1,c2,c3,c4⟩:=hX1.p.five;obtain⟨g0,g1,g2,g3,g4⟩:=hX1.p.Qf;obtain⟨k0,k1,k2,k3,k4⟩:=hX1.q.five;obtain⟨l0,l1,l2,l3,l4⟩:=hX1.q.Qf;obtain⟨m0,m1,m2,m3,m4⟩:=hX1.c.five;obtain⟨n0,n1,n2,n3,n4⟩:=hX1.c.Qf)|(go_at_call 138;refine(XB _ _ _ _ _ _ _).mono ?_;rintro e w8 ⟨rfl,hb2⟩;rw[HK.out];have hX2:=hX1.below hb2;obtain⟨c0,c1,c2,c3,c4⟩:=hX2.p.five;obtain⟨g0,g1,g2,g3,g4⟩:=hX2.p.Qf;obtain⟨k0,k1,k2,k3,k4⟩:=hX2.q.five;obtain⟨l0,l1,l2,l3,l4⟩:=hX2.q.Qf;obtain⟨m0,m1,m2,m3,m4⟩:=hX2.c.five;obtain⟨n0,n1,n2,n3,n4⟩:=hX2.c.Qf)|(go_at_call 140;refine(JI _ _ _ _ _ _ _ _ b1 b2 b3 b4).mono ?_;rintro e w7 ⟨rfl,hb3⟩;have Wo:=hX2.below hb3;obtain⟨c0,c1,c2,c3,c4⟩:=Wo.p.five;obtain⟨g0,g1,g2,g3,g4⟩:=Wo.p.Qf;obtain⟨k0,k1,k2,k3,k4⟩:=Wo.q.five;obtain⟨l0,l1,l2,l3,l4⟩:=Wo.q.Qf;obtain⟨m0,m1,m2,m3,m4⟩:=Wo.c.five;obtain⟨n0,n1,n2,n3,n4⟩:=Wo.c.Qf))
 obtain⟨hq,hc,hbel⟩:=Wo.done (.int .i64 (0)) (.int .i64 (0)) (.int .i64 (0)) (.int .i64 (0)) (.int .i64 (0)) (.int .i64 (Ut f s)) (.int .i64 (r)) (.int .i64 (o)) (.int .i64 (key)) (.int .i64 (0)) rfl;obtain⟨y0,y1,y2,y3,y4⟩:=hq.five;obtain⟨z0,z1,z2,z3,z4⟩:=hc.five;exact QV (v:=.tuple #[(TK.done f r o s key 0).q,(TK.done f r o s key 0).c,.int .i64 2,.int .i64 0]) (by simp[results,Tryz.results89,go_sem,TK.done,TK.q,TK.c,y0,y1,y2,y3,y4,z0,z1,z2,z3,z4]) rfl (ZX.of hbel)):p:=h
theorem QkE{p:Prop}(h:p:=by
 go_wp2;go_meet;change∃us,Vs (V8.alloc (.cells #[.slice qJ qX qY,.slice Yi Yg Yh] 26)) (.slice (some ⟨V8.heap.size,0,none⟩) 2 2) us/\Lists (V8.alloc (.cells #[.slice qJ qX qY,.slice Yi Yg Yh] 26)) us _/\Below V4.heap.size V4 (V8.alloc (.cells #[.slice qJ qX qY,.slice Yi Yg Yh] 26));exact⟨[.slice qJ qX qY,.slice Yi Yg Yh],⟨_,2,2,rfl,rfl,by decide,by decide,YJ _ [.slice qJ qX qY,.slice Yi Yg Yh] _,fun h=>by simp at h⟩,(Lists.one (RH.below (QC _ _))).append (Lists.one (RG.below (QC _ _))),hbW.alloc hbW.size _⟩):p:=h
theorem QkF{p:Prop}(h:p:=by
 have SH:(some pq:Option (Int×Int)).isSome=true:=rfl;clear hk;go_wp2_with (go_at_call 247;refine(HS.out _).mono ?_;rintro e w8 ⟨rfl,ZU⟩;have Xp:=HX.out.to ZU;have g29:=Xp.XY;have g30:=Xp.Jl;have g31:=Xp.c31;have g32:=Xp.c32;have g33:=Xp.JA;have k29:=Xp.free 29;have lM:=Xp.free 30;have lL:=Xp.free 31;have k32:=Xp.free 32;have k33:=Xp.free 33;have Hr:=Xp.lt;have MH:=QQ Xp;have Vu:=QQ ZU;clear ZU Xp)
 go_meet;exact⟨rfl,⟨_,by have e:cm=c':=HL.out.symm.trans zX.out;rw[e];exact(MH.out.zu c').alloc _⟩,((Z6.of Vu.out).trans (Z6.setCells c'.cells)).trans (Z6.of (QC _ _))⟩):p:=h
theorem QkG{p:Prop}(h:p:=by
 go_meet;change∃us,Vs (V8.alloc (.cells #[.slice qJ qX qY,.slice Yi Yg Yh] 26)) (.slice (some ⟨V8.heap.size,0,none⟩) 2 2) us/\Lists (V8.alloc (.cells #[.slice qJ qX qY,.slice Yi Yg Yh] 26)) us _/\Below V4.heap.size V4 (V8.alloc (.cells #[.slice qJ qX qY,.slice Yi Yg Yh] 26));exact⟨[.slice qJ qX qY,.slice Yi Yg Yh],⟨_,2,2,rfl,rfl,by decide,by decide,YJ _ [.slice qJ qX qY,.slice Yi Yg Yh] _,fun h=>by simp at h⟩,(Lists.one (RH.below (QC _ _))).append (Lists.one (RG.below (QC _ _))),hbW.alloc hbW.size _⟩):p:=h
theorem QkH{p:Prop}(h:p:=by
 obtain⟨c0,c1,c2,c3,c4⟩:=hC.five;obtain⟨p0,p1,-,-⟩:=hF.two;obtain⟨m0,m1,m2,q0,q1,q2⟩:=hM.three;obtain⟨d0,d1,d2,g0,g1,g2⟩:=hR.three;obtain⟨l0,l1,t0,t1⟩:=hL.two;have HF:=QQ (show _/\_/\_ from⟨((((hR.set 0 (.int .i64 mk)).set 1 (.int .i64 mn)).set 2 (.int .i64 mg)).other (a:=⟨w.heap.size+3,0,none⟩) (show w.heap.size+2≠w.heap.size+3 by omega) (.int .i64 fk)).other (a:=⟨w.heap.size+3,1,none⟩) (show w.heap.size+2≠w.heap.size+3 by omega) (.int .i64 fa),((((hL.other (a:=⟨w.heap.size+2,0,none⟩) (show w.heap.size+3≠w.heap.size+2 by omega) (.int .i64 mk)).other (a:=⟨w.heap.size+2,1,none⟩) (show w.heap.size+3≠w.heap.size+2 by omega) (.int .i64 mn)).other (a:=⟨w.heap.size+2,2,none⟩) (show w.heap.size+3≠w.heap.size+2 by omega) (.int .i64 mg)).set 0 (.int .i64 fk)).set 1 (.int .i64 fa),(((((hb.setCell (p:=⟨w.heap.size+2,0,none⟩) (by show w.heap.size<=w.heap.size+2;omega) (.int .i64 mk)).setCell (p:=⟨w.heap.size+2,1,none⟩) (by show w.heap.size<=w.heap.size+2;omega) (.int .i64 mn)).setCell (p:=⟨w.heap.size+2,2,none⟩) (by show w.heap.size<=w.heap.size+2;omega) (.int .i64 mg)).setCell (p:=⟨w.heap.size+3,0,none⟩) (by show w.heap.size<=w.heap.size+3;omega) (.int .i64 fk)).setCell (p:=⟨w.heap.size+3,1,none⟩) (by show w.heap.size<=w.heap.size+3;omega) (.int .i64 fa))⟩);have FO:=QQ (show _/\_/\_ from⟨((((hR.other (a:=⟨w.heap.size+3,0,none⟩) (show w.heap.size+2≠w.heap.size+3 by omega) (.int .i64 fk)).other (a:=⟨w.heap.size+3,1,none⟩) (show w.heap.size+2≠w.heap.size+3 by omega) (.int .i64 fa)).set 0 (.int .i64 mk)).set 1 (.int .i64 mn)).set 2 (.int .i64 mg),((((hL.set 0 (.int .i64 fk)).set 1 (.int .i64 fa)).other (a:=⟨w.heap.size+2,0,none⟩) (show w.heap.size+3≠w.heap.size+2 by omega) (.int .i64 mk)).other (a:=⟨w.heap.size+2,1,none⟩) (show w.heap.size+3≠w.heap.size+2 by omega) (.int .i64 mn)).other (a:=⟨w.heap.size+2,2,none⟩) (show w.heap.size+3≠w.heap.size+2 by omega) (.int .i64 mg),(((((hb.setCell (p:=⟨w.heap.size+3,0,none⟩) (by show w.heap.size<=w.heap.size+3;omega) (.int .i64 fk)).setCell (p:=⟨w.heap.size+3,1,none⟩) (by show w.heap.size<=w.heap.size+3;omega) (.int .i64 fa)).setCell (p:=⟨w.heap.size+2,0,none⟩) (by show w.heap.size<=w.heap.size+2;omega) (.int .i64 mk)).setCell (p:=⟨w.heap.size+2,1,none⟩) (by show w.heap.size<=w.heap.size+2;omega) (.int .i64 mn)).setCell (p:=⟨w.heap.size+2,2,none⟩) (by show w.heap.size<=w.heap.size+2;omega) (.int .i64 mg))⟩);have HQ:=QQ hQ;clear hF hC hM hR hL hb hQ
 conv=>arg 2;whnf
 go_region
 all_goals
  first
   | exact HQ.out _ _ _ ⟨HF.out.1,HF.out.2.1,HF.out.2.2.drew⟩
   | exact HQ.out _ _ _ ⟨FO.out.1,FO.out.2.1,FO.out.2.2.drew⟩):p:=h
theorem QkI{p:Prop}(h:p:=by
 clear hk;go_wp2_with (go_at_call 247;refine(HS.out _).mono ?_;rintro e w8 ⟨rfl,ZU⟩;have Xp:=HX.out.to ZU;have g29:=Xp.XY;have g30:=Xp.Jl;have g31:=Xp.c31;have g32:=Xp.c32;have g33:=Xp.JA;have k29:=Xp.free 29;have lM:=Xp.free 30;have lL:=Xp.free 31;have k32:=Xp.free 32;have k33:=Xp.free 33;have Hr:=Xp.lt;have MH:=QQ Xp;have Vu:=QQ ZU;clear ZU Xp)
 go_meet;exact⟨rfl,⟨_,by have e:cm=c':=HL.out.symm.trans zX.out;rw[e];exact(MH.out.zu c').alloc _⟩,((Z6.of Vu.out).trans (Z6.setCells c'.cells)).trans (Z6.of (QC _ _))⟩):p:=h
theorem QkL{p:Prop}(h:p:=by
 change∃us,Vs (V8.alloc (.cells #[.slice qJ qX qY,.slice Yi Yg Yh] 26)) (.slice (some ⟨V8.heap.size,0,none⟩) 2 2) us/\Lists (V8.alloc (.cells #[.slice qJ qX qY,.slice Yi Yg Yh] 26)) us _/\Below V4.heap.size V4 (V8.alloc (.cells #[.slice qJ qX qY,.slice Yi Yg Yh] 26));exact⟨[.slice qJ qX qY,.slice Yi Yg Yh],⟨_,2,2,rfl,rfl,by decide,by decide,YJ _ [.slice qJ qX qY,.slice Yi Yg Yh] _,fun h=>by simp at h⟩,(Lists.one (RH.below (QC _ _))).append (Lists.one (RG.below (QC _ _))),hbW.alloc hbW.size _⟩):p:=h
theorem QkM{p:Prop}(h:p:=by
 go_wp2_with (go_at_call 247;refine(HS.out _).mono ?_;rintro e w8 ⟨rfl,ZU⟩;have Xp:=HX.out.to ZU;have g29:=Xp.XY;have g30:=Xp.Jl;have g31:=Xp.c31;have g32:=Xp.c32;have g33:=Xp.JA;have k29:=Xp.free 29;have lM:=Xp.free 30;have lL:=Xp.free 31;have k32:=Xp.free 32;have k33:=Xp.free 33;have Hr:=Xp.lt;have MH:=QQ Xp;have Vu:=QQ ZU;clear ZU Xp)
 go_meet;exact⟨rfl,⟨_,by have e:cm=c':=HL.out.symm.trans zX.out;rw[e];exact(MH.out.zu c').alloc _⟩,((Z6.of Vu.out).trans (Z6.setCells c'.cells)).trans (Z6.of (QC _ _))⟩):p:=h
theorem QkN{p:Prop}(h:p:=by
 first|exact(hacc.setCell (p:=⟨w.heap.size+1,0,none⟩) (QK _) _).setCell (p:=⟨w.heap.size+1,1,none⟩) (QK _) _|exact QS _ _ _):p:=h
theorem QkO{p:Prop}(h:p:=by
 clear hin hno;go_wp2;have hG:=((((((hRr.set 0 (.slice none 0 0)).set 1 (.int .i64 0)).set 2 (.int .i64 0)).set 3 (.slice none 0 0)).set 4 (.slice none 0 0)).set 5 (.bool false));simp only[QZ,QX,QY]at hG;obtain⟨y0,y1,y2,y3,y4,y5⟩:=hG.six;refine QV (v:=.tuple #[.agg (Zc (.slice none 0 0) 0 0 (.slice none 0 0) (.slice none 0 0) false),.slice none 0 0,.int .i64 (5)]) (by simp[results,Tryz.results132,go_sem,y0,y1,y2,y3,y4,y5,Zc]) rfl ?_;exact .inr ⟨HN.out,_,_,_,_,rfl,Wn _ _,XH.nil _ _,((((((Yx.setCell (p:=⟨w.heap.size+1,0,none⟩) (QK _) _).setCell (p:=⟨w.heap.size+1,1,none⟩) (QK _) _).setCell (p:=⟨w.heap.size+1,2,none⟩) (QK _) _).setCell (p:=⟨w.heap.size+1,3,none⟩) (QK _) _).setCell (p:=⟨w.heap.size+1,4,none⟩) (QK _) _).setCell (p:=⟨w.heap.size+1,5,none⟩) (QK _) _)⟩):p:=h
theorem QkP{p:Prop}(h:p:=by
 go_wp2;have hG:=((((((Cm.set 0 (.slice ra rn rc)).set 1 (.int .i64 M)).set 2 (.int .i64 (wh:Int))).set 3 (.slice a4 n4 qV)).set 4 (.slice ua un uc)).set 5 (.bool O));simp only[QZ,QX,QY]at hG;obtain⟨y0,y1,y2,y3,y4,y5⟩:=hG.six;have qh:Below w.heap.size w w9:=QW J9.drew (by show w.heap.size<=w5.heap.size;omega) YN;have rP:yU (w.heap.size+2) w9 (.slice ra rn rc) (.slice a4 n4 qV) (.slice ua un uc) ls xs pat:=by
  have h1:=yU.kept (w:=w5) Oh.out (w':=w5.drew) (Qx _ _).drew;have h2:=h1.kept YN;have h3:=Own.kept (w:=w5) iA.out (w':=w5.drew) (Qx _ _).drew;exact⟨h2.row,h3.kept YN,h2.pat⟩
 have Iq:=(((((rP.setCell (a:=⟨w.heap.size+1,0,none⟩) (Qq _) (.slice ra rn rc)).setCell (a:=⟨w.heap.size+1,1,none⟩) (Qq _) (.int .i64 M)).setCell (a:=⟨w.heap.size+1,2,none⟩) (Qq _) (.int .i64 (wh:Int))).setCell (a:=⟨w.heap.size+1,3,none⟩) (Qq _) (.slice a4 n4 qV)).setCell (a:=⟨w.heap.size+1,4,none⟩) (Qq _) (.slice ua un uc)).setCell (a:=⟨w.heap.size+1,5,none⟩) (Qq _) (.bool O);have jd:=je.mono (base':=w.heap.size+2) (by show w.heap.size+2<=w5.heap.size;omega);have Vh:=(((((jd.setCell (a:=⟨w.heap.size+1,0,none⟩) (Qq _) (.slice ra rn rc)).setCell (a:=⟨w.heap.size+1,1,none⟩) (Qq _) (.int .i64 M)).setCell (a:=⟨w.heap.size+1,2,none⟩) (Qq _) (.int .i64 (wh:Int))).setCell (a:=⟨w.heap.size+1,3,none⟩) (Qq _) (.slice a4 n4 qV)).setCell (a:=⟨w.heap.size+1,4,none⟩) (Qq _) (.slice ua un uc)).setCell (a:=⟨w.heap.size+1,5,none⟩) (Qq _) (.bool O);refine QV (v:=.tuple #[.agg (Zc (.slice ra rn rc) M (wh:Int) (.slice a4 n4 qV) (.slice ua un uc) O),.slice a9 n9 c9,.int .i64 0]) (by simp[results,Tryz.results193,go_sem,y0,y1,y2,y3,y4,y5,Zc]) rfl ?_;rw[HTH.out];exact⟨.slice ra rn rc,(.slice a4 n4 qV),.slice ua un uc,.slice a9 n9 c9,rfl,(Iq.hip _ _ _).imp (fun k hk=>by omega),Vh.xB.imp (fun k hk=>by omega),(((((qh.setCell (QK _) _).setCell (QK _) _).setCell (QK _) _).setCell (QK _) _).setCell (QK _) _).setCell (QK _) _⟩):p:=h
theorem QkR{p:Prop}(h:p:=by
 go_wp2;have hG:=((((((Cm.set 0 (.slice ra rn rc)).set 1 (.int .i64 M)).set 2 (.int .i64 (wh:Int))).set 3 (.slice ta tn tc)).set 4 (.slice ua un uc)).set 5 (.bool O));simp only[QZ,QX,QY]at hG;obtain⟨y0,y1,y2,y3,y4,y5⟩:=hG.six;have qh:Below w.heap.size w w9:=QW J9.drew (by show w.heap.size<=w5.heap.size;omega) YN;have rP:yU (w.heap.size+2) w9 (.slice ra rn rc) (.slice ta tn tc) (.slice ua un uc) ls Qm pat:=by
  have h1:=yU.kept (w:=w5) Oh.out (w':=w5.drew) (Qx _ _).drew;have h2:=h1.kept YN;have h3:=Own.kept (w:=w5) iA.out (w':=w5.drew) (Qx _ _).drew;exact⟨h2.row,h3.kept YN,h2.pat⟩
 have Iq:=(((((rP.setCell (a:=⟨w.heap.size+1,0,none⟩) (Qq _) (.slice ra rn rc)).setCell (a:=⟨w.heap.size+1,1,none⟩) (Qq _) (.int .i64 M)).setCell (a:=⟨w.heap.size+1,2,none⟩) (Qq _) (.int .i64 (wh:Int))).setCell (a:=⟨w.heap.size+1,3,none⟩) (Qq _) (.slice ta tn tc)).setCell (a:=⟨w.heap.size+1,4,none⟩) (Qq _) (.slice ua un uc)).setCell (a:=⟨w.heap.size+1,5,none⟩) (Qq _) (.bool O);have jd:=je.mono (base':=w.heap.size+2) (by show w.heap.size+2<=w5.heap.size;omega);have Vh:=(((((jd.setCell (a:=⟨w.heap.size+1,0,none⟩) (Qq _) (.slice ra rn rc)).setCell (a:=⟨w.heap.size+1,1,none⟩) (Qq _) (.int .i64 M)).setCell (a:=⟨w.heap.size+1,2,none⟩) (Qq _) (.int .i64 (wh:Int))).setCell (a:=⟨w.heap.size+1,3,none⟩) (Qq _) (.slice ta tn tc)).setCell (a:=⟨w.heap.size+1,4,none⟩) (Qq _) (.slice ua un uc)).setCell (a:=⟨w.heap.size+1,5,none⟩) (Qq _) (.bool O);refine QV (v:=.tuple #[.agg (Zc (.slice ra rn rc) M (wh:Int) (.slice ta tn tc) (.slice ua un uc) O),.slice a9 n9 c9,.int .i64 0]) (by simp[results,Tryz.results193,go_sem,y0,y1,y2,y3,y4,y5,Zc]) rfl ?_;rw[HTH.out];exact⟨.slice ra rn rc,(.slice ta tn tc),.slice ua un uc,.slice a9 n9 c9,rfl,(Iq.hip _ _ _).imp (fun k hk=>by omega),Vh.xB.imp (fun k hk=>by omega),(((((qh.setCell (QK _) _).setCell (QK _) _).setCell (QK _) _).setCell (QK _) _).setCell (QK _) _).setCell (QK _) _⟩):p:=h
theorem QkS{p:Prop}(h:p:=by
 have hS0:(V2.drew.cell? ⟨B3,0,none⟩=some (.slice (some ⟨bb1,UI,none⟩) n cb)/\V2.drew.cell? ⟨B2,1,none⟩=some (.int .i64 (pa:Int))/\V2.drew.cell? ⟨B3,1,none⟩=some (.int .i64 (pb:Int))/\Below V2.heap.size V2 V2.drew):=⟨q0,q1,q2,(Qx _ _).drew⟩
 go_region_law (first|(go_simp;go_at_call 149;((with_reducible refine(Yd B2 B3 (some ⟨bb1,UI,none⟩) n cb pa _ (ps0 ‹_›) (oU ‹_›)).mono ?_);rintro e w4 ⟨J4,rfl,Av,fE,hb4⟩;have YS:V2.heap.size<=J4:=QL (AY ‹_›) Av;have bY:=XN ‹_› Z5 Z4 hb4 (AY ‹_›);have hT:=bY;obtain⟨r0,r1,r2,-⟩:=hT))|(go_simp;go_at_call 153;((with_reducible refine(Yl J4 J4 0 (some ⟨bb1,UI,none⟩) n cb pa P B _ _ ((xI.out.Xn (Y1 ‹_›)).imp (fun q hq=>QG hq YS)) fE (by omega) (by omega) hn (by decide)).mono ?_);rintro e w5 ⟨rfl,fD,hb5,Ng⟩;have hS5:=XN ‹_› Z5 Z4 hb5 YS;have hT:=hS5;obtain⟨r0,r1,r2,-⟩:=hT))|(go_simp;go_at_call 151;((with_reducible refine(X3 J4 J4 2 (some ⟨bb1,UI,none⟩) n cb P pb B _ _ ((xI.out.Xn (Y1 ‹_›)).imp (fun q hq=>QG hq YS)) fD (by omega) hpb hn (by decide)).mono ?_);rintro e w6 ⟨rfl,rf,hb6,eG⟩;have fA:=XN ‹_› Z5 Z4 hb6 YS;have hT:=fA;obtain⟨r0,r1,r2,-⟩:=hT;obtain⟨cB,Uw,mZ,QXM,hl6⟩:=rf;obtain⟨-,-,k6,-⟩:=Uw.three;obtain⟨O1,Ot,O0,rfl⟩:=mZ.form)))
 all_goals
  have hbW:Below V2.heap.size V2 w6:=Y1 ‹_›;have rG:=mZ.sl;go_wp2;go_meet;change∃us,Vs (w6.alloc (.cells #[.slice O1 Ot O0] 26)) (.slice (some ⟨w6.heap.size,0,none⟩) 1 1) us/\Lists (w6.alloc (.cells #[.slice O1 Ot O0] 26)) us _/\Below V2.heap.size V2 (w6.alloc (.cells #[.slice O1 Ot O0] 26));exact⟨[.slice O1 Ot O0],⟨_,1,1,rfl,rfl,by decide,by decide,YJ _ [.slice O1 Ot O0] _,fun h=>by simp at h⟩,Lists.one (rG.below (QC _ _)),hbW.alloc hbW.size _⟩):p:=h
theorem QkT{p:Prop}(h:p:=by
 go_enter Tryz.func145,Tryz.ntmps145
 go_upto_region 1 with fail
 change Code.wp _ _ _ _ ((w.alloc (.cells #[.slice la ln lc,.int .i64 M,.int .i64 W,.slice sa sn sc,.slice pa pn pc,.bool O] 65)).alloc (.cells #[.slice none 0 0,.int .i64 0,.int .i64 0,.slice none 0 0,.slice none 0 0,.bool false] 65));generalize((w.alloc (.cells #[.slice la ln lc,.int .i64 M,.int .i64 W,.slice sa sn sc,.slice pa pn pc,.bool O] 65)).alloc (.cells #[.slice none 0 0,.int .i64 0,.int .i64 0,.slice none 0 0,.slice none 0 0,.bool false] 65))=w1 at *;obtain⟨c0,c1,c2,c3,c4,c5⟩:=hB.six;go_wp2_with ((go_at_call 191);refine(UL.out _ HR1.out).mono ?_;rintro e w2 ⟨rfl,hb2⟩;rw[HE.out];have hB2:=hB.below hb2 hB.lt;obtain⟨d0,d1,d2,d3,d4,d5⟩:=hB2.six;have hR2:=hR.below hb2 hR.lt;obtain⟨p0,p1,p2,p3,p4,p5⟩:=hR2.six;obtain⟨t0,t1,t2,t3,t4,t5⟩:=hR2.Z7;have Qc:=QW hacc (by omega) hb2;have hlt2:=hB2.lt;have hz2:=hb2.size;have HR2:=QQ (HR1.out.below hb2);have hx2:=hx.below Qc)
 refine(FL.out _ HR2.out hx2).mono ?_;rintro e w3 ⟨lv3,sv3,pv3,ND,rfl,hp3,yN,hb3⟩;obtain⟨vs3,⟨ra,rn,rc,rfl,-⟩,-⟩:=hp3.ls;obtain⟨ta,tn,tc,rfl⟩:=hp3.Qm.form;obtain⟨ua,un,uc,rfl⟩:=hp3.pat.form;have UE:=hR2.below hb3 hR2.lt;obtain⟨q0,q1,q2,q3,q4,q5⟩:=UE.six;obtain⟨v0,v1,v2,v3,v4,v5⟩:=UE.Z7;have YG:=QW Qc (by omega) hb3;have Fw:=QQ hp3;have Dx:=QQ yN;simp only[Zc,Vw];clear hp3 yN;go_wp2;obtain⟨y0,y1,y2,y3,y4,y5⟩:=(UE.six' (.slice ra rn rc) (.int .i64 M) (.int .i64 (wh:Int)) (.slice ta tn tc) (.slice ua un uc) (.bool O)).six;refine QV (v:=.tuple #[.agg (Zc (.slice ra rn rc) M (wh:Int) (.slice ta tn tc) (.slice ua un uc) O),ND,.int .i64 0]) (by simp[results,Tryz.results145,go_sem,y0,y1,y2,y3,y4,y5,Zc]) rfl ?_;exact⟨_,_,_,_,rfl,(Fw.out.six (by omega)).imp (fun k hk=>by omega),(Dx.out.six (by omega)).imp (fun k hk=>by omega),YB YG (by omega)⟩):p:=h
theorem Qka{p:Prop}(h:p:=by
 go_enter Tryz.func146,Tryz.ntmps146
 go_upto_region 1 with fail
 change Code.wp _ _ _ _ ((w.alloc (.cells #[.slice la ln lc,.int .i64 M,.int .i64 W,.slice sa sn sc,.slice pa pn pc,.bool O] 65)).alloc (.cells #[.slice none 0 0,.int .i64 0,.int .i64 0,.slice none 0 0,.slice none 0 0,.bool false] 65));generalize((w.alloc (.cells #[.slice la ln lc,.int .i64 M,.int .i64 W,.slice sa sn sc,.slice pa pn pc,.bool O] 65)).alloc (.cells #[.slice none 0 0,.int .i64 0,.int .i64 0,.slice none 0 0,.slice none 0 0,.bool false] 65))=w1 at *;obtain⟨c0,c1,c2,c3,c4,c5⟩:=hB.six;go_wp2_with ((go_at_call 191);refine(UL.out _ HR1.out).mono ?_;rintro e w2 ⟨rfl,hb2⟩;rw[HE.out];have hB2:=hB.below hb2 hB.lt;obtain⟨d0,d1,d2,d3,d4,d5⟩:=hB2.six;have hR2:=hR.below hb2 hR.lt;obtain⟨p0,p1,p2,p3,p4,p5⟩:=hR2.six;obtain⟨t0,t1,t2,t3,t4,t5⟩:=hR2.Z7;have Qc:=QW hacc (by omega) hb2;have hlt2:=hB2.lt;have hz2:=hb2.size;have HR2:=QQ (HR1.out.below hb2);have hx2:=hx.below Qc)
 refine(FL.out _ HR2.out hx2).mono ?_;rintro e w3 ⟨lv3,sv3,pv3,ND,rfl,hp3,yN,hb3⟩;obtain⟨vs3,⟨ra,rn,rc,rfl,-⟩,-⟩:=hp3.ls;obtain⟨ta,tn,tc,rfl⟩:=hp3.Qm.form;obtain⟨ua,un,uc,rfl⟩:=hp3.pat.form;have UE:=hR2.below hb3 hR2.lt;obtain⟨q0,q1,q2,q3,q4,q5⟩:=UE.six;obtain⟨v0,v1,v2,v3,v4,v5⟩:=UE.Z7;have YG:=QW Qc (by omega) hb3;have Fw:=QQ hp3;have Dx:=QQ yN;simp only[Zc,Vw];clear hp3 yN;go_wp2;obtain⟨y0,y1,y2,y3,y4,y5⟩:=(UE.six' (.slice ra rn rc) (.int .i64 M) (.int .i64 (wh:Int)) (.slice ta tn tc) (.slice ua un uc) (.bool O)).six;refine QV (v:=.tuple #[.agg (Zc (.slice ra rn rc) M (wh:Int) (.slice ta tn tc) (.slice ua un uc) O),ND,.int .i64 0]) (by simp[results,Tryz.results146,go_sem,y0,y1,y2,y3,y4,y5,Zc]) rfl ?_;exact⟨_,_,_,_,rfl,(Fw.out.six (by omega)).imp (fun k hk=>by omega),(Dx.out.six (by omega)).imp (fun k hk=>by omega),YB YG (by omega)⟩):p:=h
theorem Qkb{p:Prop}(h:p:=by
 go_enter Tryz.func147,Tryz.ntmps147
 go_upto_region 1 with fail
 change Code.wp _ _ _ _ ((w.alloc (.cells #[.slice la ln lc,.int .i64 M,.int .i64 W,.slice sa sn sc,.slice pa pn pc,.bool O] 65)).alloc (.cells #[.slice none 0 0,.int .i64 0,.int .i64 0,.slice none 0 0,.slice none 0 0,.bool false] 65));generalize((w.alloc (.cells #[.slice la ln lc,.int .i64 M,.int .i64 W,.slice sa sn sc,.slice pa pn pc,.bool O] 65)).alloc (.cells #[.slice none 0 0,.int .i64 0,.int .i64 0,.slice none 0 0,.slice none 0 0,.bool false] 65))=w1 at *;obtain⟨c0,c1,c2,c3,c4,c5⟩:=hB.six;go_wp2_with ((go_at_call 191);refine(UL.out _ HR1.out).mono ?_;rintro e w2 ⟨rfl,hb2⟩;rw[HE.out];have hB2:=hB.below hb2 hB.lt;obtain⟨d0,d1,d2,d3,d4,d5⟩:=hB2.six;have hR2:=hR.below hb2 hR.lt;obtain⟨p0,p1,p2,p3,p4,p5⟩:=hR2.six;obtain⟨t0,t1,t2,t3,t4,t5⟩:=hR2.Z7;have Qc:=QW hacc (by omega) hb2;have hlt2:=hB2.lt;have hz2:=hb2.size;have HR2:=QQ (HR1.out.below hb2);have hx2:=hx.below Qc)
 refine(FL.out _ HR2.out hx2).mono ?_;rintro e w3 ⟨lv3,sv3,pv3,ND,rfl,hp3,yN,hb3⟩;obtain⟨vs3,⟨ra,rn,rc,rfl,-⟩,-⟩:=hp3.ls;obtain⟨ta,tn,tc,rfl⟩:=hp3.Qm.form;obtain⟨ua,un,uc,rfl⟩:=hp3.pat.form;have UE:=hR2.below hb3 hR2.lt;obtain⟨q0,q1,q2,q3,q4,q5⟩:=UE.six;obtain⟨v0,v1,v2,v3,v4,v5⟩:=UE.Z7;have YG:=QW Qc (by omega) hb3;have Fw:=QQ hp3;have Dx:=QQ yN;simp only[Zc,Vw];clear hp3 yN;go_wp2;obtain⟨y0,y1,y2,y3,y4,y5⟩:=(UE.six' (.slice ra rn rc) (.int .i64 M) (.int .i64 (0:Int)) (.slice ta tn tc) (.slice ua un uc) (.bool O)).six;refine QV (v:=.tuple #[.agg (Zc (.slice ra rn rc) M (0:Int) (.slice ta tn tc) (.slice ua un uc) O),ND,.int .i64 0]) (by simp[results,Tryz.results147,go_sem,y0,y1,y2,y3,y4,y5,Zc]) rfl ?_;exact⟨_,_,_,_,rfl,(Fw.out.six (by omega)).imp (fun k hk=>by omega),(Dx.out.six (by omega)).imp (fun k hk=>by omega),YB YG (by omega)⟩):p:=h
theorem Qkc{p:Prop}(h:p:=by
 have SH:(none:Option (Int×Int)).isSome=false:=rfl;have HK:=QQ hk;clear hk;go_wp2_with (go_at_call 247;refine(HS.out _).mono ?_;rintro e w8 ⟨rfl,ZU⟩;have Vu:=QQ ZU;clear ZU)
 go_meet;exact⟨rfl,⟨us,by have e:cm=s.cm:=by {rw[<-HL.out,zX.out,Yr.out HK.out,<-HC.out]};rw[e];exact(HX.out.to Vu.out).alloc _⟩,(Z6.of Vu.out).trans (Z6.of (QC _ _))⟩):p:=h
theorem Qkd{p:Prop}(h:p:=by
 have e1:=hc1 k (by rw[HVE.out];exact hlt);obtain⟨xa,xn,xc,x1,x2,x3,x4,x5,x6⟩:=hls.sl k (by rw[Od.out];exact hlt);have HSK:=QQ (hls.sl k (by rw[Od.out];exact hlt));rw[x1]at e1;have iy:=QQ x2;have HX1:=QQ x1;have hnew:Ye BB (X.take (k+1))=YA (Ye BB (X.take k)) (rx X k):=by rw[U0 (by rw[Od.out];exact hlt),uU]
 have aB:=QQ hnew;clear hc1 x1 x2 x3 x4 x5 x6 hnew;by_cases hbt:xn<oI
 ·have i1:(xn:Int)<(oI:Int):=by omega
  go_wp2;go_roundw
  case rel=>
   refine⟨k+1,by go_num,by omega,?_,_,rfl⟩;rw[aB.out];unfold YA;rw[if_pos (by rw[iy.out,HXB.out.1];exact hbt),<-HX1.out];exact HSK.out.drewN m
  case measure=>simp[intOf];omega
 ·have i1:¬(xn:Int)<(oI:Int):=by omega
  go_wp2;go_roundw
  case rel=>
   refine⟨k+1,by go_num,by omega,?_,_,rfl⟩;rw[aB.out];unfold YA;rw[if_neg (by rw[iy.out,HXB.out.1];exact hbt)];exact HBK.out
  case measure=>simp[intOf];omega):p:=h
theorem Qke{p:Prop}(h:p:=by
 refine hK.out _ _ (Vb hB1 hS1 Jt) (fun hHeld=>?_);clear hK K;refine QO (rs:=[29]) (by kernel_rfl) (by simp) ?_;refine QA (o:=⟨some 37,_,_,_,_,_⟩) rfl (fun K hK=>?_) QI;go_simp;refine(nY.out _ Jt).mono ?_;rintro e w8 ⟨v8,rfl,o8,ZU⟩;obtain⟨a8,n8,k8,rfl⟩:=o8.form;have lG:=o8.mono Jt.size;replace Fb:=Fb.kept ZU;replace Ci:=Ci.Xu ZU;replace Jt:=Jt.trans (ZU.mono Jt.size);dsimp only;refine hK.out _ _ (Vb hB1 hS1 Jt) (fun hHeld=>?_);clear hK K;refine QF 35 ⟨some 43,_,_,_,_,_⟩ ((.agg #[.slice a8 n8 k8,.int .i64 S.rat])) ?_;simp only[Act.put,QZ,QX,QY];obtain⟨rs,hrs⟩:∃rs,rs=Va (.slice a5 n5 k5) S n43 (.slice a8 n8 k8):=⟨_,rfl⟩;have DT:=QQ hrs;clear hrs;refine wpAnyH_take (i:=40) (oi:=⟨some 48,_,_,_,_,_⟩) (v:=(.agg (ZT rs))) rfl (by kernel_rfl) (by kernel_rfl) (by kernel_rfl) (fun _ _ _ h=>h) (Or.inl ⟨by rfl,fun w hSw=>by rw[DT.out];exact UH _ _ _ _ _ _ _ _ rfl a5 n5 k5 S n43 a8 n8 k8 rfl rfl rfl rfl rfl rfl rfl rfl w⟩) (by assumption) ?_;simp only[Act.put,QZ,QX,QY];refine QO (rs:=[42]) (by kernel_rfl) (by simp) ?_;refine QA (o:=⟨none,_,_,_,_,_⟩) rfl (fun K hK=>?_) QI;rw[if_pos (by rfl)];refine Uz _ _ rfl R rfl rs rfl Ci.Bu (by rw[DT.out];rfl) (by rw[DT.out];exact zP _ _ _ _ _ _ _ _) ?_;simp only[Act.put,QZ,QX,QY];refine hK.out _ _ (Vb hB1 hS1 (below_setCells kE _ 0 Jt)) (fun hHeld=>?_);clear hK K;refine XO (by kernel_rfl) ?_ _;go_wp2;go_meet;exact⟨_,_,_,rfl,by rw[DT.out];exact lkQ Ci kE Fb lG Jt⟩):p:=h
theorem Qkf{p:Prop}(h:p:=by
 have HK:=QQ hk;clear hk;go_wp2_with (go_at_call 247;refine(HS.out _).mono ?_;rintro e w8 ⟨rfl,ZU⟩;have Vu:=QQ ZU;clear ZU)
 go_meet;exact⟨rfl,⟨us,by have e:cm=s.cm:=by {rw[<-HL.out,zX.out,Yr.out HK.out,<-HC.out]};rw[e];exact(HX.out.to Vu.out).alloc _⟩,(Z6.of Vu.out).trans (Z6.of (QC _ _))⟩):p:=h
theorem Qkg{p:Prop}(h:p:=by
 clear hk;go_wp2_with (go_at_call 247;refine(HS.out _).mono ?_;rintro e w8 ⟨rfl,ZU⟩;have Vu:=QQ ZU;clear ZU)
 go_meet;exact⟨rfl,⟨us,by have e:cm=s.cm:=by {rw[<-HL.out,zX.out,Yr.out HK.out,<-HC.out]};rw[e];exact(HX.out.to Vu.out).alloc _⟩,(Z6.of Vu.out).trans (Z6.of (QC _ _))⟩):p:=h
theorem Qkh{p:Prop}(h:p:=by
 rcases rr with _|⟨y,t⟩
 ·simp at h
 ·exact⟨y,t,rfl⟩):p:=h
theorem Qki{p:Prop}(h:p:=by
 go_wp2_with (go_at_call 247;refine(HS.out _).mono ?_;rintro e w8 ⟨rfl,ZU⟩;have Vu:=QQ ZU;clear ZU)
 go_meet;exact⟨rfl,⟨us,by have e:cm=s.cm:=by {rw[<-HL.out,zX.out,Yr.out HK.out,<-HC.out]};rw[e];exact(HX.out.to Vu.out).alloc _⟩,(Z6.of Vu.out).trans (Z6.of (QC _ _))⟩):p:=h
theorem Qkl{p:Prop}(h:p:=by
 clear hK K;refine QO (rs:=[20]) (by kernel_rfl) (by simp) ?_;refine QA (o:=⟨some 27,_,_,_,_,_⟩) rfl (fun K hK=>?_) QI;go_simp;refine(VI _ _ _ _ _).mono ?_;rintro e w6 ⟨rfl,rfl⟩;rw[HVS.out];refine hK.out _ _ (by assumption) (fun hHeld=>?_);clear hK K;refine QF 21 ⟨some 6,.move (.tmp 27),_,_,_,_⟩ ((.tuple #[.int .i64 (Zj S.pos S.off S.width),.int .i64 0])) ?_;simp only[Act.put,QZ,QX,QY];refine QF 22 ⟨some 28,.extract (.tmp 6) 0,_,_,_,_⟩ ((.int .i64 (Zj S.pos S.off S.width))) ?_;simp only[Act.put,QZ,QX,QY];refine QF 23 ⟨some 29,.extract (.tmp 6) 1,_,_,_,_⟩ ((.int .i64 0)) ?_;simp only[Act.put,QZ,QX,QY];refine QF 24 ⟨some 30,.nilCheck (.tmp 7),_,_,_,_⟩ ((.pointer (some ⟨B,0,none⟩))) ?_;simp only[Act.put,QZ,QX,QY];refine QF 25 ⟨some 31,.fieldAddr 112 (.tmp 30) 13,_,_,_,_⟩ ((.pointer (some ⟨B,51,none⟩))) ?_;simp only[Act.put,QZ,QX,QY];refine QO (rs:=[26]) (by kernel_rfl) (by simp) ?_;refine QA (o:=⟨none,_,_,_,_,_⟩) rfl (fun K hK=>?_) QI;go_simp;refine hK.out _ _ ⟨x0s,x1s,nk⟩ (fun hHeld=>?_);clear hK K;refine XO (by kernel_rfl) ?_ _;go_wp2;go_meet;exact⟨rfl,F,_,hA2.store 51 (.int .i64 (Zj S.pos S.off S.width)) {hA2.hf.d with off:=rfl}⟩):p:=h
theorem Qkm{p:Prop}(h:p:=by
 go_wp2;go_meet;exact⟨rfl,rfl,rfl⟩):p:=h
theorem Qkn{p:Prop}(h:p:=by
 have PU:=QQ Vg;clear hfit;go_wp2_with ((go_at_call 192);refine(aD.out _ hq x5).mono ?_;rintro e w5 ⟨rfl,hb5⟩;rw[Vg])
 go_roundw
 case rel=>exact⟨_,rfl,by omega,fun j hj hs hb=>by
  rcases ZJ j k with h|h|h
  ·exact Yr.out j hj hs (by omega)
  ·subst h;exact PU.out
  ·exact Yr.out j hj hs (by omega),QW hbr (by omega) hb5⟩
 case measure=>simp[intOf];omega):p:=h
theorem Qko{p:Prop}(h:p:=by
 go_quiet (fail)
 go_wp2;go_ret3
 exact⟨rfl,below_drewN ((Xh.setCell (p:=⟨w2.heap.size+1,0,none⟩) (by show w.heap.size<=w2.heap.size+1;omega) _).setCell (p:=⟨w2.heap.size+1,1,none⟩) (by show w.heap.size<=w2.heap.size+1;omega) _) _⟩):p:=h
theorem Qkp{p:Prop}(h:p:=by
 go_enter Tryz.func89,Tryz.ntmps89
 go_wp2_with (first|(go_at_call 17;refine(Zt _ _ _ _ _ _).mono ?_;rintro e w9 ⟨rfl,hb⟩;rw[HP.out];have hX1:=hX.below hb;obtain⟨c0,c1,c2,c3,c4⟩:=hX1.p.five;obtain⟨g0,g1,g2,g3,g4⟩:=hX1.p.Qf;obtain⟨k0,k1,k2,k3,k4⟩:=hX1.q.five;obtain⟨l0,l1,l2,l3,l4⟩:=hX1.q.Qf;obtain⟨m0,m1,m2,m3,m4⟩:=hX1.c.five;obtain⟨n0,n1,n2,n3,n4⟩:=hX1.c.Qf)|(go_at_call 138;refine(XB _ _ _ _ _ _ _).mono ?_;rintro e w8 ⟨rfl,hb2⟩;rw[HK.out];have hX2:=hX1.below hb2;obtain⟨c0,c1,c2,c3,c4⟩:=hX2.p.five;obtain⟨g0,g1,g2,g3,g4⟩:=hX2.p.Qf;obtain⟨k0,k1,k2,k3,k4⟩:=hX2.q.five;obtain⟨l0,l1,l2,l3,l4⟩:=hX2.q.Qf;obtain⟨m0,m1,m2,m3,m4⟩:=hX2.c.five;obtain⟨n0,n1,n2,n3,n4⟩:=hX2.c.Qf))
 obtain⟨hq,hc,hbel⟩:=hX2.done (.int .i64 (0)) (.int .i64 (0)) (.int .i64 (0)) (.int .i64 (0)) (.int .i64 (0)) (.int .i64 (0)) (.int .i64 (0)) (.int .i64 (0)) (.int .i64 (0)) (.int .i64 (0)) rfl;obtain⟨y0,y1,y2,y3,y4⟩:=hq.five;obtain⟨z0,z1,z2,z3,z4⟩:=hc.five;exact QV (v:=.tuple #[(TK.wrong).q,(TK.wrong).c,.int .i64 3,.int .i64 0]) (by simp[results,Tryz.results89,go_sem,TK.wrong,TK.q,TK.c,y0,y1,y2,y3,y4,z0,z1,z2,z3,z4]) rfl (ZX.of hbel)):p:=h
theorem Qkr{p:Prop}(h:p:=by
 exact⟨[.slice qJ qX qY,.slice Yi Yg Yh],⟨_,2,2,rfl,rfl,by decide,by decide,YJ _ [.slice qJ qX qY,.slice Yi Yg Yh] _,fun h=>by simp at h⟩,(Lists.one (RH.below (QC _ _))).append (Lists.one (RG.below (QC _ _))),hbW.alloc hbW.size _⟩):p:=h
theorem Qks{p:Prop}(h:p:=by
 go_meet;exact⟨rfl,rfl,rfl⟩):p:=h
theorem Qkt{p:Prop}(h:p:=by
 rintro e w2 ⟨x,y,er,rfl,hP,hb2⟩;have HP:=QQ hP;have hA2:=hA.below hb2 hA.lt;have hbb:=QW hb hb.size hb2;clear hA hb hb2 hP;obtain⟨d0,d1,f0,f1⟩:=hA2.two;obtain⟨y0,y1,-,-⟩:=QD.two ((hA2.set 0 (.int .i64 x)).set 1 (.int .i64 y));go_wp2
 go_quiet (fail)
 go_wp2;go_ret3
 exact⟨x,y,er,rfl,HP.out,below_drewN ((hbb.setCell (p:=⟨w.heap.size,0,none⟩) (QU _) _).setCell (p:=⟨w.heap.size,1,none⟩) (QU _) _) _⟩):p:=h
theorem Qk0{p:Prop}(h:p:=by
 go_meet;exact⟨rfl,⟨_,by have e:cm=c':=HL.out.symm.trans zX.out;rw[e];exact(MH.out.zu c').alloc _⟩,((Z6.of Vu.out).trans (Z6.setCells c'.cells)).trans (Z6.of (QC _ _))⟩):p:=h
theorem Qk1{p:Prop}(h:p:=by
 go_meet;exact⟨rfl,⟨us,by have e:cm=s.cm:=by {rw[<-HL.out,zX.out,Yr.out HK.out,<-HC.out]};rw[e];exact(HX.out.to Vu.out).alloc _⟩,(Z6.of Vu.out).trans (Z6.of (QC _ _))⟩):p:=h
theorem Qk2{p:Prop}(h:p:=by
 go_wp2_with (first|(go_at_call 17;refine(Zt _ _ _ _ _ _).mono ?_;rintro e w9 ⟨rfl,hb⟩;rw[HP.out];have hX1:=hX.below hb;obtain⟨c0,c1,c2,c3,c4⟩:=hX1.p.five;obtain⟨g0,g1,g2,g3,g4⟩:=hX1.p.Qf;obtain⟨k0,k1,k2,k3,k4⟩:=hX1.q.five;obtain⟨l0,l1,l2,l3,l4⟩:=hX1.q.Qf;obtain⟨m0,m1,m2,m3,m4⟩:=hX1.c.five;obtain⟨n0,n1,n2,n3,n4⟩:=hX1.c.Qf))
 obtain⟨hq,hc,hbel⟩:=hX1.done (.int .i64 (0)) (.int .i64 (0)) (.int .i64 (0)) (.int .i64 (0)) (.int .i64 (0)) (.int .i64 (0)) (.int .i64 (0)) (.int .i64 (0)) (.int .i64 (0)) (.int .i64 (0)) rfl;obtain⟨y0,y1,y2,y3,y4⟩:=hq.five;obtain⟨z0,z1,z2,z3,z4⟩:=hc.five;exact QV (v:=.tuple #[(TK.wrong).q,(TK.wrong).c,.int .i64 3,.int .i64 0]) (by simp[results,Tryz.results89,go_sem,TK.wrong,TK.q,TK.c,y0,y1,y2,y3,y4,z0,z1,z2,z3,z4]) rfl (ZX.of hbel)):p:=h
theorem Qk3{p:Prop}(h:p:=by
 have HA2:=QQ hA2;clear hA2 o2 hb2;go_wp2_with fail
 refine HB.out.mono ?_;rintro e w3 ⟨rfl,hv⟩;go_wp2
 go_end0
 obtain⟨F3,f3,hA3,-,-⟩:=HA2.out.call hv;exact⟨rfl,by rw[HE.out];exact hA3.done⟩):p:=h
theorem Qk4{p:Prop}(h:p:=by
 exact⟨rfl,⟨_,by have e:cm=c':=HL.out.symm.trans zX.out;rw[e];exact(MH.out.zu c').alloc _⟩,((Z6.of Vu.out).trans (Z6.setCells c'.cells)).trans (Z6.of (QC _ _))⟩):p:=h
theorem Qk5{p:Prop}(h:p:=by
 exact⟨rfl,⟨us,by have e:cm=s.cm:=by {rw[<-HL.out,zX.out,Yr.out HK.out,<-HC.out]};rw[e];exact(HX.out.to Vu.out).alloc _⟩,(Z6.of Vu.out).trans (Z6.of (QC _ _))⟩):p:=h
theorem Qk6{p:Prop}(h:p:=by
 have e1:=zS h0;have zX:=QQ e1;clear h0 e1;go_wp2;go_meet;exact⟨rfl,⟨us,by have:=HX.out;rw[<-HL.out,zX.out,<-HC.out];exact this⟩,Z6.refl _ _⟩):p:=h
theorem Qk7{p:Prop}(h:p:=by
 go_enter Tryz.func137,Tryz.ntmps137
 go_wp2_with (go_at_call 140;refine(JI _ _ _ _ _ _ _ _ h1 h2 h3 h4).mono ?_;rintro e w9 ⟨rfl,hb⟩;have TU:=hX.below hb;obtain⟨k0,k1,k2,k3,k4⟩:=TU.q.five;obtain⟨l0,l1,l2,l3,l4⟩:=TU.q.Qf;obtain⟨m0,m1,m2,m3,m4⟩:=TU.c.five;obtain⟨n0,n1,n2,n3,n4⟩:=TU.c.Qf)
 obtain⟨hq,hc,hbel⟩:=TU.done (.int .i64 0) (.int .i64 0) (.int .i64 0) (.int .i64 0) (.int .i64 0) (.int .i64 (Ut f s)) (.int .i64 r) (.int .i64 o) (.int .i64 wt) (.int .i64 key) rfl;obtain⟨y0,y1,y2,y3,y4⟩:=hq.five;obtain⟨z0,z1,z2,z3,z4⟩:=hc.five;exact QV (v:=.tuple #[(TK.done f r o s wt key).q,(TK.done f r o s wt key).c,.int .i64 2,.int .i64 0]) (by simp[results,Tryz.results137,go_sem,TK.done,TK.q,TK.c,y0,y1,y2,y3,y4,z0,z1,z2,z3,z4]) rfl (ZX.of hbel)):p:=h
theorem Qk8{p:Prop}(h:p:=by
 have zX:=QQ e1;clear h0 e1;go_wp2;go_meet;exact⟨rfl,⟨us,by have:=HX.out;rw[<-HL.out,zX.out,<-HC.out];exact this⟩,Z6.refl _ _⟩):p:=h
theorem Qk9{p:Prop}(h:p:=by
 have HA2:=QQ hA2;have HB2:=QQ hbd;clear hA2 o2 hb2 hH e37 e38 e39 e40 e41 e42 hbd;go_upto_region 20 with fail
 go_region_law (first|(go_simp;go_at_call 148;refine HU.out.mono ?_;rintro e w8 ⟨h8,l8,E8,K7,lv,sv,pv,nv,rfl,Tq,Vf,ZU⟩;obtain⟨a8,n8,k8,rfl⟩:=Vf.form;have VG:=HA2.out.below (QR.call ZU HB2.out))|(go_simp;go_at_call 131;refine Calls.mono (UT _ _ B S lv sv pv h8 a8 n8 k8 l8 E8 w8 ⟨_,VG.hf⟩ (Tq.lt.imp fun k hk=>Fx.new k hk) (Vf.lt.imp fun k hk=>Fx.new k hk) (Vf.len K7.small) (QL (QL (ZG _ _) (ZG _ _)) HN.out)) ?_;rintro e w9 ⟨rfl,SN⟩))
 all_goals
  go_wp2
  go_end0
  obtain⟨F9,f9,VQ,-,-⟩:=VG.call SN;exact⟨rfl,by rw[HE.out,Mv K7];exact VQ.done⟩):p:=h
theorem Qkw{p:Prop}(h:p:=by
 exact⟨_,_,_,_,rfl,Wn _ _,XH.nil _ _,((((((Qc.setCell (p:=⟨w.heap.size+1,0,none⟩) (QK _) _).setCell (p:=⟨w.heap.size+1,1,none⟩) (QK _) _).setCell (p:=⟨w.heap.size+1,2,none⟩) (QK _) _).setCell (p:=⟨w.heap.size+1,3,none⟩) (QK _) _).setCell (p:=⟨w.heap.size+1,4,none⟩) (QK _) _).setCell (p:=⟨w.heap.size+1,5,none⟩) (QK _) _)⟩):p:=h
theorem QuQ{p:Prop}(h:p:=by
 clear hF hC hM hR hL hb
 go_region
 all_goals
  go_wp2;go_meet;exact⟨HF.out.1,HF.out.2.1,HF.out.2.2.1,HF.out.2.2.2.1,HF.out.2.2.2.2.1,HF.out.2.2.2.2.2.drew⟩):p:=h
theorem QuZ{p:Prop}(h:p:=by
 clear h0 e1;go_wp2;go_meet;exact⟨rfl,⟨us,by have:=HX.out;rw[<-HL.out,zX.out,<-HC.out];exact this⟩,Z6.refl _ _⟩):p:=h
theorem QuX{p:Prop}(h:p:=by
 have hbW:Below V2.heap.size V2 w6:=Y1 ‹_›;have rG:=mZ.sl;go_wp2;go_meet;change∃us,Vs (w6.alloc (.cells #[.slice O1 Ot O0] 26)) (.slice (some ⟨w6.heap.size,0,none⟩) 1 1) us/\Lists (w6.alloc (.cells #[.slice O1 Ot O0] 26)) us _/\Below V2.heap.size V2 (w6.alloc (.cells #[.slice O1 Ot O0] 26));exact⟨[.slice O1 Ot O0],⟨_,1,1,rfl,rfl,by decide,by decide,YJ _ [.slice O1 Ot O0] _,fun h=>by simp at h⟩,Lists.one (rG.below (QC _ _)),hbW.alloc hbW.size _⟩):p:=h
theorem QuY{p:Prop}(h:p:=by
 clear hq;go_wp2;go_roundw
 case rel=>
  refine⟨i+1,by go_num,by rw[HQ2.out],by omega,?_,by first|rfl|trivial⟩;intro j hj;rcases Qp.1 hj with h|rfl
  ·exact Yr.out j h
  ·exact iB.out
 case measure=>simp[intOf];omega):p:=h
theorem QuJ{p:Prop}(h:p:=by
 have h1:=yU.kept (w:=w5) Oh.out (w':=w5.drew) (Qx _ _).drew;have h2:=h1.kept YN;have h3:=Own.kept (w:=w5) iA.out (w':=w5.drew) (Qx _ _).drew;exact⟨h2.row,h3.kept YN,h2.pat⟩):p:=h
theorem QuK{p:Prop}(h:p:=by
 go_wp2;go_meet;exact⟨rfl,⟨us,by have:=HX.out;rw[<-HL.out,zX.out,<-HC.out];exact this⟩,Z6.refl _ _⟩):p:=h
theorem QuU{p:Prop}(h:p:=by
 go_wp2_with (first|(go_at_call 15;refine(HEV.out _ aI.out).mono ?_;rintro e w3 ⟨rfl,hb3⟩;have z0:=Qk hb3 _ _ y0;have z1:=Qk hb3 _ _ y1;have z3:=Qk hb3 _ _ y3;have z4:=Qk hb3 _ _ y4;have z5:=Qk hb3 _ _ y5;have z6:=Qk hb3 _ _ y6;have z7:=Qk hb3 _ _ y7;have z37:=Qk hb3 _ _ y37;have z38:=Qk hb3 _ _ y38)|(go_at_call 17;refine(KC.out _).mono ?_;rintro e w4 ⟨rfl,hb4⟩;rw[KPT.out]))
 go_ret;exact⟨rfl,HB2.out.trans ((aI.out.trans ((hb3.trans (hb4.mono hb3.size)).mono aI.out.size)).mono HB2.out.size)⟩):p:=h
theorem QuV{p:Prop}(h:p:=by
 have rG:=mZ.sl;go_wp2;go_meet;change∃us,Vs (w6.alloc (.cells #[.slice O1 Ot O0] 26)) (.slice (some ⟨w6.heap.size,0,none⟩) 1 1) us/\Lists (w6.alloc (.cells #[.slice O1 Ot O0] 26)) us _/\Below V2.heap.size V2 (w6.alloc (.cells #[.slice O1 Ot O0] 26));exact⟨[.slice O1 Ot O0],⟨_,1,1,rfl,rfl,by decide,by decide,YJ _ [.slice O1 Ot O0] _,fun h=>by simp at h⟩,Lists.one (rG.below (QC _ _)),hbW.alloc hbW.size _⟩):p:=h
theorem QuW{p:Prop}(h:p:=by
 go_wp2;go_roundw
 case rel=>
  refine⟨P+1,j+1,by go_num,QQ (by have:=HP.out;omega),by have:=HP.out;omega,by omega,?_,below_drewN rz m⟩;have h1:=HBK.out;rw[Q5 (by rw[Od.out];exact QU _),<-aI.out,<-qp,HX.out]at h1;rw[qF,HPA.out,List.map_append];exact h1
 case measure=>simp[intOf];omega):p:=h
theorem Quq{p:Prop}(h:p:=by
 go_enter Tryz.func136,Tryz.ntmps136
 go_wp2;refine QV (v:=.tuple #[.agg #[.slice none 0 0,.int .i64 0],.int .i64 1]) (by simp[results,Tryz.results136,go_sem,y0,y1]) rfl ?_;exact XR.of HK.out (fun h=>absurd h HU.out) (.inl rfl) rfl (by omega) hb):p:=h
theorem Quz{p:Prop}(h:p:=by
 go_meet;exact⟨rfl,⟨us,by have:=HX.out;rw[<-HL.out,zX.out,<-HC.out];exact this⟩,Z6.refl _ _⟩):p:=h
theorem Qux{p:Prop}(h:p:=by
 go_wp2;go_meet;change∃us,Vs (w6.alloc (.cells #[.slice O1 Ot O0] 26)) (.slice (some ⟨w6.heap.size,0,none⟩) 1 1) us/\Lists (w6.alloc (.cells #[.slice O1 Ot O0] 26)) us _/\Below V2.heap.size V2 (w6.alloc (.cells #[.slice O1 Ot O0] 26));exact⟨[.slice O1 Ot O0],⟨_,1,1,rfl,rfl,by decide,by decide,YJ _ [.slice O1 Ot O0] _,fun h=>by simp at h⟩,Lists.one (rG.below (QC _ _)),hbW.alloc hbW.size _⟩):p:=h
theorem Quy{p:Prop}(h:p:=by
 go_wp2;go_meet;exact⟨rfl,rfl⟩):p:=h
theorem Quj{p:Prop}(h:p:=by
 have h2:=h1.store (S':={S with pos:=max 0 (S.pos-1),mode:=0}) 2 (.int .i64 0) {h1.hf.d with mode:=rfl};obtain⟨F',h3⟩:=h2.yC Yr.out;rw[Zg (by decide),Zg (by decide),nV.out]at h3;exact⟨rfl,by rw[We Yr.out];exact h3.done⟩):p:=h
theorem Quk{p:Prop}(h:p:=by
 go_enter Tryz.func244,Tryz.ntmps244
 go_wp2_with fail
 refine h1.mono ?_;rintro e w1 ⟨rfl,rfl⟩;go_wp2_with fail
 refine h2.mono ?_;rintro e w1 ⟨rfl,rfl⟩;go_wp2_with fail
 refine h3.mono ?_;rintro e w1 ⟨rfl,rfl⟩;go_wp2_with fail
 refine h4.mono ?_;rintro e w1 ⟨rfl,rfl⟩;go_wp2;go_ret;exact⟨_,_,rfl,ve base w hbs _ _ _ l r c _ _ rfl HL.out HR.out (by rw[HS.out]) (by rw[HT.out,i2]),rfl,QC _ _⟩):p:=h
theorem Quu{p:Prop}(h:p:=by
 go_wp2;go_meet;exact⟨HF.out.1,HF.out.2.1,HF.out.2.2.1,HF.out.2.2.2.1,HF.out.2.2.2.2.1,HF.out.2.2.2.2.2.drew⟩):p:=h
theorem Quv{p:Prop}(h:p:=by
 go_meet;change∃us,Vs (w6.alloc (.cells #[.slice O1 Ot O0] 26)) (.slice (some ⟨w6.heap.size,0,none⟩) 1 1) us/\Lists (w6.alloc (.cells #[.slice O1 Ot O0] 26)) us _/\Below V2.heap.size V2 (w6.alloc (.cells #[.slice O1 Ot O0] 26));exact⟨[.slice O1 Ot O0],⟨_,1,1,rfl,rfl,by decide,by decide,YJ _ [.slice O1 Ot O0] _,fun h=>by simp at h⟩,Lists.one (rG.below (QC _ _)),hbW.alloc hbW.size _⟩):p:=h
theorem QuA{p:Prop}(h:p:=by
 go_wp2;go_roundw
 case rel=>
  refine⟨k+1,by go_num,by omega,?_,_,rfl⟩;rw[aB.out];unfold YA;rw[if_pos (by rw[iy.out,HXB.out.1];exact hbt),<-HX1.out];exact HSK.out.drewN m
 case measure=>simp[intOf];omega):p:=h
theorem QuB{p:Prop}(h:p:=by
 rintro e w2 ⟨rfl,hb2⟩;have hb3:=QW hbel (ZR hB2.lt) hb2;have hB3:=hB2.below hb2 hB2.lt;go_wp2;go_roundw
 case rel=>exact⟨j+1,by go_num,by omega,rfl,hB3,hb3⟩
 case measure=>simp[intOf];omega):p:=h
theorem QuC{p:Prop}(h:p:=by
 rcases h.2 with⟨rfl,_⟩|⟨g,cap,cur,rfl,hb',hgg,rest⟩
 ·simp[Value.ownBlock]
 ·intro hv
  simp only[Value.ownBlock,Qv]at hv;subst hv;rw[show w.heap[B]? =_ from hB]at hgg;simp at hgg;exact he hgg.2.symm):p:=h
theorem QuD{p:Prop}(h:p:=by
 go_wp2;go_roundw
 case rel=>
  refine⟨k+1,by go_num,by omega,?_,_,rfl⟩;rw[aB.out];unfold YA;rw[if_neg (by rw[iy.out,HXB.out.1];exact hbt)];exact HBK.out
 case measure=>simp[intOf];omega):p:=h
theorem QuE{p:Prop}(h:p:=by
 exact⟨rfl,⟨us,by have:=HX.out;rw[<-HL.out,zX.out,<-HC.out];exact this⟩,Z6.refl _ _⟩):p:=h
theorem QuF{p:Prop}(h:p:=by
 cases B
 all_goals
  have HF:=QQ hF;have HT:=QQ hT;clear hF hT;go_enter Tryz.func271,Tryz.ntmps271
  go_wp2_with ((go_at_call 270);refine(Ue a n c l k key count arg true _ hI HN.out hn2 ⟨k1,k2⟩).mono ?_;rintro e w2 ⟨rfl,hb2⟩;rw[HA.out,HB.out,HE.out])
  all_goals
   go_ret3
   rw[HF.out,HT.out];refine⟨?_,QW hacc (by simp) hb2⟩;simp
   try omega):p:=h
theorem QuG{p:Prop}(h:p:=by
 change∃us,Vs (w6.alloc (.cells #[.slice O1 Ot O0] 26)) (.slice (some ⟨w6.heap.size,0,none⟩) 1 1) us/\Lists (w6.alloc (.cells #[.slice O1 Ot O0] 26)) us _/\Below V2.heap.size V2 (w6.alloc (.cells #[.slice O1 Ot O0] 26));exact⟨[.slice O1 Ot O0],⟨_,1,1,rfl,rfl,by decide,by decide,YJ _ [.slice O1 Ot O0] _,fun h=>by simp at h⟩,Lists.one (rG.below (QC _ _)),hbW.alloc hbW.size _⟩):p:=h
theorem QuH{p:Prop}(h:p:=by
 go_meet;exact⟨HF.out.1,HF.out.2.1,HF.out.2.2.1,HF.out.2.2.2.1,HF.out.2.2.2.2.1,HF.out.2.2.2.2.2.drew⟩):p:=h
theorem QuI{p:Prop}(h:p:=by
 go_roundw
 case rel=>
  refine⟨k+1,by go_num,by omega,?_,_,rfl⟩;rw[aB.out];unfold YA;rw[if_pos (by rw[iy.out,HXB.out.1];exact hbt),<-HX1.out];exact HSK.out.drewN m
 case measure=>simp[intOf];omega):p:=h
theorem QuL{p:Prop}(h:p:=by
 go_enter Tryz.func191,Tryz.ntmps191
 go_wp2_with ((go_at_call 194);refine(HC.out _ QQx.out).mono ?_;rintro e w2 ⟨rfl,hb2⟩;rw[HE.out])
 go_ret;exact⟨ZQ HR.out.symm,QW hacc (by simp) hb2⟩):p:=h
theorem QuM{p:Prop}(h:p:=by
 have HF:=QQ hF;have HT:=QQ hT;clear hF hT;go_enter Tryz.func271,Tryz.ntmps271
 go_wp2_with ((go_at_call 270);refine(Ue a n c l k key count arg true _ hI HN.out hn2 ⟨k1,k2⟩).mono ?_;rintro e w2 ⟨rfl,hb2⟩;rw[HA.out,HB.out,HE.out])
 all_goals
  go_ret3
  rw[HF.out,HT.out];refine⟨?_,QW hacc (by simp) hb2⟩;simp
  try omega):p:=h
theorem QuN{p:Prop}(h:p:=by
 go_wp2_with ((with_reducible show wpList _ _ _ (⟨none,Op.store _ _ _,_,_,_,_⟩::_) _ _);go_loud (refine WK rfl _ _ rfl (w.heap.size+4) 0 rfl Zo rfl Zo _ hZr (QU 33) rfl Wd ?_;have zt:=Uo hZr X9 HBr.out (by omega) Zo rfl;generalize wr.setCells (w.heap.size+4) 0 Zo=w9 at zt ⊢))
 rw[aF.out];exact QV (Yc Tryz.results202 rfl (UY zt.1 X9)) rfl ⟨Zo,rfl,jM _ _ _,zt.2⟩):p:=h
theorem QuO{p:Prop}(h:p:=by
 have hlt:j<ys.length:=by
  rcases Qi j ys.length with h|h
  ·exact h
  ·simp[h]at hj
 rcases hy with hy|⟨b,o',ha,hc⟩
 ·subst hy;simp at hlt
 ·simp only[Qv]at ha
  subst ha;have hadd:(⟨b,o',none⟩:Addr).add j=⟨b,o'+j,none⟩:=by unfold Addr.add;split<;>simp_all
  rw[hadd,hc j hlt];rw[List.getElem?_map,Qr hlt]at hj;rw[Xt hlt];exact hj):p:=h
theorem QuP{p:Prop}(h:p:=by
 go_roundw
 case rel=>
  refine⟨k+1,by go_num,by omega,?_,_,rfl⟩;rw[aB.out];unfold YA;rw[if_neg (by rw[iy.out,HXB.out.1];exact hbt)];exact HBK.out
 case measure=>simp[intOf];omega):p:=h
theorem QuR{p:Prop}(h:p:=by
 go_quiet (fail)
 all_goals
  go_wp2;go_meet;exact⟨rfl,_,by first|rfl|exact drewN_drewN _ _ _⟩):p:=h
theorem QuS{p:Prop}(h:p:=by
 exact⟨HF.out.1,HF.out.2.1,HF.out.2.2.1,HF.out.2.2.2.1,HF.out.2.2.2.2.1,HF.out.2.2.2.2.2.drew⟩):p:=h
theorem QuT{p:Prop}(h:p:=by
 have h2:=h1.kept YN;have h3:=Own.kept (w:=w5) iA.out (w':=w5.drew) (Qx _ _).drew;exact⟨h2.row,h3.kept YN,h2.pat⟩):p:=h
theorem Qua{p:Prop}(h:p:=by
 refine⟨i+1,by go_num,by rw[HQ2.out],by omega,?_,by first|rfl|trivial⟩;intro j hj;rcases Qp.1 hj with h|rfl
 ·exact Yr.out j h
 ·exact iB.out):p:=h
theorem Qub{p:Prop}(h:p:=by
 have hadd:(⟨b,o',none⟩:Addr).add j=⟨b,o'+j,none⟩:=by unfold Addr.add;split<;>simp_all
 rw[hadd,hc j hlt];rw[List.getElem?_map,Qr hlt]at hj;rw[Xt hlt];exact hj):p:=h
theorem Quc{p:Prop}(h:p:=by
 go_enter Tryz.func271,Tryz.ntmps271
 go_wp2_with ((go_at_call 270);refine(Ue a n c l k key count arg true _ hI HN.out hn2 ⟨k1,k2⟩).mono ?_;rintro e w2 ⟨rfl,hb2⟩;rw[HA.out,HB.out,HE.out])
 all_goals
  go_ret3
  rw[HF.out,HT.out];refine⟨?_,QW hacc (by simp) hb2⟩;simp
  try omega):p:=h
theorem Qud{p:Prop}(h:p:=by
 rintro e w' (⟨k,hk,h⟩|⟨hk,h⟩)
 ·exact⟨_,_,_,.inr (.inr (.inr (.inl ⟨by rw[X0];exact hE,by omega,by rw[hq];exact hp,k,by rw[hq];exact hk,rfl,rfl,rfl⟩))),by rw[hq];exact h⟩
 ·exact⟨_,_,_,.inr (.inr (.inr (.inr ⟨by rw[X0];exact hE,by omega,by rw[hq];exact hp,by rw[hq];exact hk,rfl,rfl,rfl⟩))),h⟩):p:=h
theorem Que{p:Prop}(h:p:=by
 refine⟨P+1,j+1,by go_num,QQ (by have:=HP.out;omega),by have:=HP.out;omega,by omega,?_,below_drewN rz m⟩;have h1:=HBK.out;rw[Q5 (by rw[Od.out];exact QU _),<-aI.out,<-qp,HX.out]at h1;rw[qF,HPA.out,List.map_append];exact h1):p:=h
theorem Quf{p:Prop}(h:p:=by
 rintro e w' (⟨k,hk,h⟩|⟨hk,h⟩)
 ·exact⟨_,_,_,.inr (.inr (.inr (.inl ⟨by rw[X0];exact hE,by omega,by rw[hq];exact hpe,k,by rw[hq];exact hk,rfl,rfl,rfl⟩))),by rw[hq];exact h⟩
 ·exact⟨_,_,_,.inr (.inr (.inr (.inr ⟨by rw[X0];exact hE,by omega,by rw[hq];exact hpe,by rw[hq];exact hk,rfl,rfl,rfl⟩))),h⟩):p:=h
theorem Qug{p:Prop}(h:p:=by
 go_wp2;go_meet;exact⟨by rw[hb1],hW3.symm⟩):p:=h
theorem Quh{p:Prop}(h:p:=by
 obtain⟨b,o,hb,hc⟩:=h5.at (k:=0) (by omega);rw[e]at hb;simp only[Qv]at hb;subst hb;exact Zv (hc 0 (by omega))):p:=h
theorem Qui{p:Prop}(h:p:=by
 clear hq;go_wp2;go_roundw
 case rel=>
  refine⟨i,by go_num,by omega,by omega,?_,by first|rfl|trivial⟩;intro j h1 h2 h3;by_cases e:j=i
  ·rw[e];exact iB.out
  ·exact Yr.out j (by omega) h2 h3
 case measure=>simp[intOf]):p:=h
theorem Qul{p:Prop}(h:p:=by
 go_enter Tryz.func192,Tryz.ntmps192
 go_wp2_with ((go_at_call 222);refine HN.out.mono ?_;rintro e w2 ⟨x,g,rfl,hx,hb2⟩;rcases Az hx with⟨rfl,hg⟩|⟨rfl,hg⟩)
 ·go_ret
  exact⟨XZ (by rw[HF.out];simpa using hg),hb2⟩
 ·go_ret
  exact⟨XZ (by rw[HF.out];simpa using hg),hb2⟩):p:=h
theorem Qum{p:Prop}(h:p:=by
 go_wp2
 go_end0
 have h1:=HA.out.store (S':={S with pos:=max 0 (S.pos-1)}) 1 (.int .i64 0) {HA.out.hf.d with pos:=by rw[<-HSP.out];rfl};have h2:=h1.store (S':={S with pos:=max 0 (S.pos-1),mode:=0}) 2 (.int .i64 0) {h1.hf.d with mode:=rfl};exact⟨rfl,by rw[Wh Yr.out];exact h2.done⟩):p:=h
theorem Qun{p:Prop}(h:p:=by
 go_wp2_with ((go_at_call 270);refine(Ue a n c l k key count arg true _ hI HN.out hn2 ⟨k1,k2⟩).mono ?_;rintro e w2 ⟨rfl,hb2⟩;rw[HA.out,HB.out,HE.out])
 all_goals
  go_ret3
  rw[HF.out,HT.out];refine⟨?_,QW hacc (by simp) hb2⟩;simp
  try omega):p:=h
theorem Quo{p:Prop}(h:p:=by
 go_enter Tryz.func48,Tryz.ntmps48
 go_wp2_with fail
 refine HC.out.mono ?_;rintro e w7 ⟨rfl,hv⟩;go_wp2
 go_end0
 exact⟨rfl,hv⟩):p:=h
theorem Qup{p:Prop}(h:p:=by
 have h3:=Own.kept (w:=w5) iA.out (w':=w5.drew) (Qx _ _).drew;exact⟨h2.row,h3.kept YN,h2.pat⟩):p:=h
theorem Qur{p:Prop}(h:p:=by
 obtain⟨a1,a2,a3,a4⟩:=h;obtain⟨b1,b2,b3,b4⟩:=h';rcases ZJ a b with h|h|h
 ·have:=b3 a h
  rcases a4 with h'|h'|h'
  ·omega
  ·omega
  ·exact absurd this h'
 ·exact h
 ·have:=a3 b h
  rcases b4 with h'|h'|h'
  ·omega
  ·omega
  ·exact absurd this h'):p:=h
theorem Qus{p:Prop}(h:p:=by
 clear hmode hov hm2 i3 h2;go_wp2;refine QV (v:=.tuple #[.agg #[.slice none 0 0,.int .i64 0],.int .i64 8]) (by simp[results,Tryz.results136,go_sem,y0,y1]) rfl ?_;exact XR.of HK.out (fun h=>absurd h hnb) (.inl rfl) rfl (by omega) HBZ.out):p:=h
theorem Qut{p:Prop}(h:p:=by
 refine⟨k+1,by go_num,by omega,?_,_,rfl⟩;rw[aB.out];unfold YA;rw[if_pos (by rw[iy.out,HXB.out.1];exact hbt),<-HX1.out];exact HSK.out.drewN m):p:=h
theorem Qu0{p:Prop}(h:p:=by
 clear hmode hov hm2;go_wp2;go_meet;exact⟨q,q,_,1,1,rfl,rfl,rfl,by omega,by omega,⟨[key],0,AL,rfl,HK.out,fun h=>absurd h hnb⟩,by omega,(fun h=>by cases h),(hP.drewN nq).alloc _,(hA.drewN nq).alloc _,hb0.alloc hb0.size _⟩):p:=h
theorem Qu1{p:Prop}(h:p:=by
 refine⟨h.1,?_⟩;rcases h.2 with hn|⟨g,cap,cur,rfl,hb',rest⟩
 ·exact .inl hn
 ·exact .inr ⟨g,cap,cur,rfl,by omega,rest⟩):p:=h
theorem Qu2{p:Prop}(h:p:=by
 obtain⟨h1,h2⟩:=h;constructor
 ·rintro⟨h3,h4⟩
  refine⟨hk,fun j hj=>?_⟩;rw[h4 j hj,h2 (k-k'+j) (by omega)];congr 1;omega
 ·rintro⟨h3,h4⟩
  refine⟨by omega,fun j hj=>?_⟩;rw[h4 j hj,h2 (k-k'+j) (by omega)];congr 1;omega):p:=h
theorem Qu3{p:Prop}(h:p:=by
 refine⟨k+1,by go_num,by omega,?_,_,rfl⟩;rw[aB.out];unfold YA;rw[if_neg (by rw[iy.out,HXB.out.1];exact hbt)];exact HBK.out):p:=h
theorem Qu4{p:Prop}(h:p:=by
 unfold SS.command;dsimp only;rw[if_neg (by decide)];rw[if_neg (by decide)];rw[if_neg (by decide)];rw[if_neg (by decide)];rw[if_neg (by decide)];rw[if_neg (by decide)];rw[if_neg (by decide)];rw[if_neg (by decide)];rw[if_pos (by decide)];rfl):p:=h
theorem Qu5{p:Prop}(h:p:=by
 go_wp2;go_meet;exact⟨rfl,_,by first|rfl|exact drewN_drewN _ _ _⟩):p:=h
theorem Qu6{p:Prop}(h:p:=by
 go_wp2_with (go_at_call 43;refine(Ql (VD ma mc k) (p-j-k) (mc-k) ((m.take (p-j)).drop k) _ xG nY.out (by omega) nK.out).mono ?_;rintro e w8 ⟨v8,rfl,o8,ZU⟩;obtain⟨a8,n8,c8,rfl⟩:=o8.form)
 go_ret2
 exact HF.out a8 n8 c8 w8 o8 ZU):p:=h
theorem Qu7{p:Prop}(h:p:=by
 obtain⟨a,n,c,h1,h2,h3,h4,h5,h6,h7⟩:=h;refine⟨a,n,c,h1,h2,h3,h4,?_,h6,h7⟩;rcases h5 with h5|⟨b,o,rfl,h5⟩
 ·exact .inl h5
 ·exact .inr ⟨b,o,rfl,fun i hi=>hc _ _ (show P b from h7 ⟨b,o,none⟩ rfl (by omega)) (h5 i hi)⟩):p:=h
theorem Qu8{p:Prop}(h:p:=by
 go_roundw
 case rel=>
  refine⟨k+1,mm,f,by go_num,by omega,by omega,?_,?_⟩
  ·rw[HS2.out];intro o;exact Nat.le_succ_of_le (hlen o)
  ·rw[HS2.out];exact LZ
 case measure=>simp[intOf];omega):p:=h
theorem Qu9{p:Prop}(h:p:=by
 by_cases c2:k=0
 ·rw[if_pos c2]at h;cases h
 ·rw[if_neg c2]at h;simp at h;omega):p:=h
theorem Quw{p:Prop}(h:p:=by
 exact⟨_,_,_,_,rfl,Wn _ _,XH.nil _ _,YB Qc (QK _)⟩):p:=h
theorem QvQ{p:Prop}(h:p:=by
 unfold SS.command;dsimp only;rw[if_neg (by decide)];rw[if_neg (by decide)];rw[if_neg (by decide)];rw[if_neg (by decide)];rw[if_neg (by decide)];rw[if_neg (by decide)];rw[if_neg (by decide)];rw[if_pos (by decide)];rfl):p:=h
theorem QvZ{p:Prop}(h:p:=by
 go_wp2
 all_goals
  go_ret;refine⟨ZQ ?_,rfl⟩;unfold DF;omega):p:=h
theorem QvX{p:Prop}(h:p:=by
 have:=CS w;unfold C5.v at this;exact this):p:=h
theorem QvY{p:Prop}(h:p:=by
 refine⟨h.1,?_⟩;rcases h.2 with hn|⟨g,cap,cur,rfl,hb',hgg,rest⟩
 ·exact .inl hn
 ·exact .inr ⟨g,cap,cur,rfl,hb',by rw[QP _ _ _ _ (by intro e;exact ha (by simp[Value.ownBlock,e]))];exact hgg,rest⟩):p:=h
theorem QvJ{p:Prop}(h:p:=by
 unfold YL at h;split at h
 ·omega
 ·split at h
  ·rcases h with⟨t,h1,_,_,h2⟩|⟨_,h2⟩<;>(try dsimp only at h2)<;>omega
  ·rcases h with⟨t,h1,_,_,h2⟩|⟨_,h2⟩<;>(try dsimp only at h2)<;>omega):p:=h
theorem QvK{p:Prop}(h:p:=by
 go_wp2
 go_end0
 obtain⟨F9,f9,VQ,-,-⟩:=VG.call SN;exact⟨rfl,by rw[HE.out,K7.VA];exact VQ.done⟩):p:=h
theorem QvU{p:Prop}(h:p:=by
 refine⟨i,by go_num,by omega,by omega,?_,by first|rfl|trivial⟩;intro j h1 h2 h3;by_cases e:j=i
 ·rw[e];exact iB.out
 ·exact Yr.out j (by omega) h2 h3):p:=h
theorem QvV{p:Prop}(h:p:=by
 obtain⟨a,n,c,h1,h2,h3,h4,h5,h6,h7⟩:=h;exact⟨a,n,c,h1,h2,h3,h4,h5,h6,fun ad e p=>hi _ (h7 ad e p)⟩):p:=h
theorem QvW{p:Prop}(h:p:=by
 refine⟨h1.le,?_⟩;obtain⟨X,g1,g2,g3⟩:=h1.ex;exact⟨X,g1,g2,fun i hi hp=>g3 i hi (by
  rcases hp with hp|hp|hp
  ·exact .inl hp
  ·exact .inr (.inl (.inl hp))
  ·exact .inr (.inr hp))⟩):p:=h
theorem Qvq{p:Prop}(h:p:=by
 have h1:=HBK.out;rw[Q5 (by rw[Od.out];exact QU _),<-aI.out,<-qp,HX.out]at h1;rw[qF,HPA.out,List.map_append];exact h1):p:=h
theorem Qvz{p:Prop}(h:p:=by
 go_wp2
 go_end0
 exact⟨rfl,hv⟩):p:=h
theorem Qvx{p:Prop}(h:p:=by
 refine⟨h.1,?_⟩;rcases h.2 with hn|⟨g,cap,cur,rfl,hb',hgg,rest⟩
 ·exact .inl hn
 ·exact .inr ⟨g,cap,cur,rfl,hb',by rw[hb.block g (Array.getElem?_eq_some_iff.1 hgg).1];exact hgg,rest⟩):p:=h
theorem Qvy{p:Prop}(h:p:=by
 subst ha;have hadd:(⟨b,o',none⟩:Addr).add j=⟨b,o'+j,none⟩:=by unfold Addr.add;split<;>simp_all
 rw[hadd,hc j hlt];rw[List.getElem?_map,Qr hlt]at hj;rw[Xt hlt];exact hj):p:=h
theorem Qvj{p:Prop}(h:p:=by
 go_meet;exact⟨rfl,_,by first|rfl|exact drewN_drewN _ _ _⟩):p:=h
theorem Qvk{p:Prop}(h:p:=by
 rw[aB.out];unfold YA;rw[if_pos (by rw[iy.out,HXB.out.1];exact hbt),<-HX1.out];exact HSK.out.drewN m):p:=h
theorem Qvu{p:Prop}(h:p:=by
 go_enter Tryz.func287,Tryz.ntmps287
 go_wp2_with ((go_at_call 288);refine(JG _ _).mono ?_;rintro e w' ⟨rfl,rfl⟩;rw[HK.out])
 all_goals
  go_ret;exact⟨rfl,hacc⟩):p:=h
theorem Qvv{p:Prop}(h:p:=by
 exact XR.of HK.out (fun h=>absurd h hnb) (.inl rfl) rfl (by omega) ((below_drewN hb nq).setCell (p:=⟨w.heap.size+1,0,none⟩) (QK _) _ |>.setCell (p:=⟨w.heap.size+1,1,none⟩) (QK _) _)):p:=h
theorem QvA{p:Prop}(h:p:=by
 go_wp2;go_ret3
 rw[HG.out];exact⟨rfl,Qx _ _⟩):p:=h
theorem QvB{p:Prop}(h:p:=by
 intro j hj;rcases Qp.1 hj with h|rfl
 ·exact Yr.out j h
 ·exact iB.out):p:=h
theorem QvC{p:Prop}(h:p:=by
 rcases hy:(Xo l k arg)[n.toNat-1]? with _|y
 ·rw[hy]at h;cases h
 ·rw[hy]at h
  have hy:=jT _ _ _ _ y (ZN hy);simp at h;obtain⟨h1,_⟩:=h;split at h1<;>omega):p:=h
theorem QvD{p:Prop}(h:p:=by
 rcases hy:(X6 l k arg)[n.toNat-1]? with _|y
 ·rw[hy]at h;cases h
 ·rw[hy]at h
  have hy:=Bf _ _ _ y (ZN hy);simp at h;obtain⟨h1,_⟩:=h;split at h1<;>omega):p:=h
theorem QvE{p:Prop}(h:p:=by
 rcases hM.gB with hg|hg
 ·exact hn hg
 ·omega):p:=h
theorem QvF{p:Prop}(h:p:=by
 exact⟨.inl ⟨i,by rw[HN.out];exact hlt,HF.out,Yr.out,by rw[HP.out];rfl⟩,(hb.setCell (p:=⟨w.heap.size,0,none⟩) (QU _) _).setCell (p:=⟨w.heap.size,1,none⟩) (QU _) _⟩):p:=h
theorem QvG{p:Prop}(h:p:=by
 rw[aB.out];unfold YA;rw[if_neg (by rw[iy.out,HXB.out.1];exact hbt)];exact HBK.out):p:=h
theorem QvH{p:Prop}(h:p:=by
 have hz2:=HF.out;refine⟨⟨v3,_,_,_,_,⟨j+1,by go_num,b,rfl,by omega,by simpa using hz,by simpa using hz2⟩,rfl,rfl,rfl,rfl,rfl⟩,by simp[intOf];omega⟩):p:=h
theorem QvI{p:Prop}(h:p:=by
 go_wp2;go_ret;exact⟨rfl,rfl⟩):p:=h
theorem QvL{p:Prop}(h:p:=by
 refine⟨a,n,c,h1,h2,h3,h4,h5,h6,fun ad ea p=>?_⟩;subst h1 ea;exact h.row ad.block (by rcases h.2 with⟨h8,_⟩|⟨g,cap,cur,h8,_⟩<;>simp_all[Value.ownBlock])):p:=h
theorem QvM{p:Prop}(h:p:=by
 exact hM.now.move (fun _ h=>h) fun C hC=>⟨hs C (hne C (.inr (.inr ⟨C,hC,.inl rfl⟩))),fun tv k g1 g2=>hs k (hne k (.inr (.inr ⟨C,hC,.inr ⟨tv,g1,g2⟩⟩)))⟩):p:=h
theorem QvN{p:Prop}(h:p:=by
 exact⟨[.slice O1 Ot O0],⟨_,1,1,rfl,rfl,by decide,by decide,YJ _ [.slice O1 Ot O0] _,fun h=>by simp at h⟩,Lists.one (rG.below (QC _ _)),hbW.alloc hbW.size _⟩):p:=h
theorem QvO{p:Prop}(h:p:=by
 go_wp2;go_meet;rw[HD.out];exact⟨rfl,rfl⟩):p:=h
theorem QvP{p:Prop}(h:p:=by
 refine⟨h.1,?_⟩;rcases h.2 with hn|⟨g,cap,cur,rfl,hb',hgg,rest⟩
 ·exact .inl hn
 ·exact .inr ⟨g,cap,cur,rfl,hb',by rw[hb g rfl];exact hgg,rest⟩):p:=h
theorem QvR{p:Prop}(h:p:=by
 rw[Q5 (by rw[Od.out];exact QU _),<-aI.out,<-qp,HX.out]at h1;rw[qF,HPA.out,List.map_append];exact h1):p:=h
theorem QvS{p:Prop}(h:p:=by
 refine⟨k+1,mm,f,by go_num,by omega,by omega,?_,?_⟩
 ·rw[HS2.out];intro o;exact Nat.le_succ_of_le (hlen o)
 ·rw[HS2.out];exact LZ):p:=h
theorem QvT{p:Prop}(h:p:=by
 exact QV (v:=.tuple #[TK.wrong.q,TK.wrong.c,.int .i64 3,.int .i64 0]) (by simp[results,Tryz.results137,go_sem,TK.wrong,TK.q,TK.c]) rfl (ZX.of (hacc _ _ _))):p:=h
theorem Qva{p:Prop}(h:p:=by
 simp at h;obtain⟨h1,_⟩:=h;split at h1<;>omega):p:=h
theorem Qvb{p:Prop}(h:p:=by
 go_enter Tryz.func304,Tryz.ntmps304
 go_wp2;go_ret3
 exact⟨rfl,rfl⟩):p:=h
theorem Qvc{p:Prop}(h:p:=by
 unfold YA;rw[if_pos (by rw[iy.out,HXB.out.1];exact hbt),<-HX1.out];exact HSK.out.drewN m):p:=h
theorem Qvd{p:Prop}(h:p:=by
 refine⟨?_,by dsimp only;omega,?_,hmd⟩<;>simp<;>omega):p:=h
theorem Qve{p:Prop}(h:p:=by
 obtain⟨p,hp,hu⟩:=List.mem_flatMap.1 hu;have:=hok p hp;simp[V2.cells]at hu;rcases hu with rfl|rfl
 ·exact this.1
 ·exact this.2):p:=h
theorem Qvf{p:Prop}(h:p:=by
 rw[hadd,hc j hlt];rw[List.getElem?_map,Qr hlt]at hj;rw[Xt hlt];exact hj):p:=h
theorem Qvg{p:Prop}(h:p:=by
 go_ret;refine⟨ZQ ?_,rfl⟩;unfold DF;omega):p:=h
theorem Qvh{p:Prop}(h:p:=by
 rcases Qp.1 hj with h|rfl
 ·exact Yr.out j h
 ·exact iB.out):p:=h
theorem Qvi{p:Prop}(h:p:=by
 go_end0
 exact⟨rfl,by rw[HE.out,if_pos HF.out];exact bz.out.done⟩):p:=h
theorem Qvl{p:Prop}(h:p:=by
 refine⟨a,n,c,h1,h2,h3,h4,h5,h6,fun ad ea p=>?_⟩;subst h1 ea;rcases h.2 with⟨h8,_⟩|⟨g,cap,cur,h8,_⟩<;>simp_all[Value.ownBlock]):p:=h
theorem Qvm{p:Prop}(h:p:=by
 exact⟨rfl,_,by first|rfl|exact drewN_drewN _ _ _⟩):p:=h
theorem Qvn{p:Prop}(h:p:=by
 unfold JK;split
 ·rename_i r hr
  have hr:=XI hr;have:=YL.le (Y2 l l.length r (by omega)) (by omega);omega
 ·omega):p:=h
theorem Qvo{p:Prop}(h:p:=by
 unfold C5.v at this;exact this):p:=h
theorem Qvp{p:Prop}(h:p:=by
 subst hk;exact ho0.ZA (show QD w g cur _ from hgg) (by decide) e.symm):p:=h
theorem Qvr{p:Prop}(h:p:=by
 rw[ho]at hn;have:f 47=.pointer none:=hn;rw[hC]at this;cases this):p:=h
theorem Qvs{p:Prop}(h:p:=by
 unfold YA;rw[if_neg (by rw[iy.out,HXB.out.1];exact hbt)];exact HBK.out):p:=h
theorem Qvt{p:Prop}(h:p:=by
 rcases h.qI o s hk x (by omega) hx2 with⟨j,h1,h2,h3⟩|h1
 ·exact .inl ⟨j,by omega,h2,h3⟩
 ·exact .inr h1):p:=h
theorem Qv0{p:Prop}(h:p:=by
 obtain⟨x0,x1,x2,x3,x4,x5,x6,x7,x8,x9,PG,nu,x12,x13,x14,x15,x16,x17,x18,x19,x20,x21,PE,PD,x24,x25,Pv,rfl⟩:=QZC hr
 kernel_rfl):p:=h
theorem Qv1{p:Prop}(h:p:=by
 exact(((QW hbx hbx.size YN)).setCell (p:=⟨w.heap.size+1,0,none⟩) (QK _) _).setCell (p:=⟨w.heap.size+1,1,none⟩) (QK _) _):p:=h
theorem Qv2{p:Prop}(h:p:=by
 exact⟨XZ (by rw[HF.out];simpa using hg),hb2⟩):p:=h
theorem Qv3{p:Prop}(h:p:=by
 intro j h1 h2 h3;by_cases e:j=i
 ·rw[e];exact iB.out
 ·exact Yr.out j (by omega) h2 h3):p:=h
theorem Qv4{p:Prop}(h:p:=by
 by_cases c2:op=false/\Xk (K8 l (key==69)) n.toNat k=k
 ·rw[if_pos c2]at h;cases h
 ·rw[if_neg c2]at h;simp at h;omega):p:=h
theorem Qv5{p:Prop}(h:p:=by
 go_simp;go_wp2
 go_end0
 rw[Te,chL,HY.out,hK2];exact⟨rfl,Sa,((Z6.of hb2).drew).trans VQ⟩):p:=h
theorem Qv6{p:Prop}(h:p:=by
 rcases Qi j ys.length with h|h
 ·exact h
 ·simp[h]at hj):p:=h
theorem Qv7{p:Prop}(h:p:=by
 have HP:=QQ hp.symm;clear hp;go_wp2;go_ret2
 exact Vr.of HP.out (.inl rfl) hacc):p:=h
theorem Qv8{p:Prop}(h:p:=by
 exact {h with p0:=by dsimp only;omega,p1:=by dsimp only;omega,pc:=fun h=>by dsimp only at h;omega,md:=.inr (.inl rfl)}):p:=h
theorem Qv9{p:Prop}(h:p:=by
 go_ret3
 rw[HF.out,HT.out];refine⟨?_,QW hacc (by simp) hb2⟩;simp
 try omega):p:=h
theorem Qvw{p:Prop}(h:p:=by
 rw[hg.block k (QG hk hb.size) (fun e=>hn e.symm),hb.block k hk]):p:=h
theorem QAQ{p:Prop}(h:p:=by
 go_wp2
 all_goals
  go_ret;refine⟨XZ ?_,rfl⟩;rw[HF.out,Bool.eq_iff_iff];simp
  try omega):p:=h
theorem QAZ{p:Prop}(h:p:=by
 have hadd:(⟨g,0,none⟩:Addr).add i=⟨g,0+i,none⟩:=by unfold Addr.add;split<;>simp_all
 rwa[hadd]at this):p:=h
theorem QAX{p:Prop}(h:p:=by
 obtain⟨h1,_⟩:=h;split at h1<;>omega):p:=h
theorem QAY{p:Prop}(h:p:=by
 refine⟨ZQ ?_,rfl⟩;unfold DF;omega):p:=h
theorem QAJ{p:Prop}(h:p:=by
 rw[if_pos (by rw[iy.out,HXB.out.1];exact hbt),<-HX1.out];exact HSK.out.drewN m):p:=h
theorem QAK{p:Prop}(h:p:=by
 split
 ·exact Tl.Xa S
 ·exact Tl.any rfl rfl rfl rfl rfl):p:=h
theorem QAU{p:Prop}(h:p:=by
 go_ret;exact⟨ZQ HE.out.symm,hb1⟩):p:=h
theorem QAV{p:Prop}(h:p:=by
 go_enter Tryz.func25,Tryz.ntmps25
 go_wp2;go_ret2
 exact⟨Qx _ _,.inl ⟨Yr.out,rfl⟩⟩):p:=h
theorem QAW{p:Prop}(h:p:=by
 go_wp2;go_ret;exact⟨rfl,hbel⟩):p:=h
theorem QAq{p:Prop}(h:p:=by
 go_enter Tryz.func221,Tryz.ntmps221
 go_wp2;go_ret;exact⟨none,.nil,rfl,rfl,rfl,Qx _ _⟩):p:=h
theorem QAz{p:Prop}(h:p:=by
 go_wp2;go_ret;exact⟨rfl,⟨_,H3.out.drew.Jb _⟩,(HA1.out.trans hA3.drew).trans (Z6.set _)⟩):p:=h
theorem QAx{p:Prop}(h:p:=by
 rcases h with h|⟨b,o,ha,h⟩
 ·exact .inl h
 ·exact .inr ⟨b,o,ha,fun i hi=>hc _ _ (h i hi)⟩):p:=h
theorem QAy{p:Prop}(h:p:=by
 rw[HF.out,HT.out];refine⟨?_,QW hacc (by simp) hb2⟩;simp
 try omega):p:=h
theorem QAj{p:Prop}(h:p:=by
 go_region_law fail
 all_goals
  go_wp2;go_meet;exact⟨rfl,rfl,rfl,(Qx _ _).drew⟩):p:=h
theorem QAk{p:Prop}(h:p:=by
 go_wp2;go_ret;exact⟨rfl,⟨_,H1.out⟩,HA1.out⟩):p:=h
theorem QAu{p:Prop}(h:p:=by
 have hp':tmps[s]?.getD undef=.pointer (some ad):=by simpa using hp
 simp[results,h,hp',asAddr,hl]):p:=h
theorem QAv{p:Prop}(h:p:=by
 have hy:=jT _ _ _ _ y (ZN hy);simp at h;obtain⟨h1,_⟩:=h;split at h1<;>omega):p:=h
theorem QAA{p:Prop}(h:p:=by
 obtain⟨a',n',c',h1,rest⟩:=h;simp only[Qw]at h1;obtain⟨rfl,rfl,rfl⟩:=h1;exact rest):p:=h
theorem QAB{p:Prop}(h:p:=by
 go_enter Tryz.func201,Tryz.ntmps201
 go_wp2;go_ret;exact⟨ZQ HF.out.symm,hacc⟩):p:=h
theorem QAC{p:Prop}(h:p:=by
 by_cases e:j=i
 ·rw[e];exact iB.out
 ·exact Yr.out j (by omega) h2 h3):p:=h
theorem QAD{p:Prop}(h:p:=by
 have hy:=Bf _ _ _ y (ZN hy);simp at h;obtain⟨h1,_⟩:=h;split at h1<;>omega):p:=h
theorem QAE{p:Prop}(h:p:=by
 go_ret;exact⟨rfl,hacc⟩):p:=h
theorem QAF{p:Prop}(h:p:=by
 go_ret;refine⟨XZ ?_,rfl⟩;rw[HF.out,Bool.eq_iff_iff];simp
 try omega):p:=h
theorem QAG{p:Prop}(h:p:=by
 rcases h with h|h
 ·subst h;simp at hk
 ·exact h):p:=h
theorem QAH{p:Prop}(h:p:=by
 intro k hk;rcases hk with hk|hk
 ·exact QG (h.hf.lt k (.inl hk)) hsz
 ·exact hk.2):p:=h
theorem QAI{p:Prop}(h:p:=by
 exact QV (Yc Tryz.results292 rfl (JE hB2 XA)) rfl ⟨Q9,rfl,La _ _,hL2.XW (by omega) hacc⟩):p:=h
theorem QAL{p:Prop}(h:p:=by
 clear hp hI hl;go_wp2;go_ret2
 exact Vr.of HP.out (.inr ⟨rfl,rfl⟩) hacc):p:=h
theorem QAM{p:Prop}(h:p:=by
 rw[if_neg (by rw[iy.out,HXB.out.1];exact hbt)];exact HBK.out):p:=h
theorem QAN{p:Prop}(h:p:=by
 obtain⟨a,n,c,h⟩:=(HOW.out i (by rw[DN.out]at hi;exact hi)).form;exact⟨a,n,c,h⟩):p:=h
theorem QAO{p:Prop}(h:p:=by
 rw[show((j.toNat:Nat):Int)=j from by omega,(Jz _ _ _).2 hb]at this;simp at this;omega):p:=h
theorem QAP{p:Prop}(h:p:=by
 go_wp2
 go_end0
 exact⟨rfl,HA.out.done⟩):p:=h
theorem QAR{p:Prop}(h:p:=by
 go_wp2;go_meet;exact⟨_,_,_,hx,rfl,rfl,rfl,((Qx _ _).drew.drew).trans ZU⟩):p:=h
theorem QAS{p:Prop}(h:p:=by
 exact⟨h2.row,h3.kept YN,h2.pat⟩):p:=h
theorem QAT{p:Prop}(h:p:=by
 go_enter Tryz.func226,Tryz.ntmps226
 go_wp2;go_ret;exact⟨rfl,QC _ _⟩):p:=h
theorem QAa{p:Prop}(h:p:=by
 have yz:=QQ hA3;clear hA3 hv;go_wp2
 go_end0
 exact⟨rfl,yz.out.done⟩):p:=h
theorem QAb{p:Prop}(h:p:=by
 exact ho.moved fun k hk=>hsc k (fun e=>by subst e;exact ho.ZA hB (by decide) hk.symm)):p:=h
theorem QAc{p:Prop}(h:p:=by
 rw[hbel.cell (Zv this)];exact this):p:=h
theorem QAd{p:Prop}(h:p:=by
 have hr:=XI hr;have:=YL.le (Y2 l l.length r (by omega)) (by omega);omega):p:=h
theorem QAe{p:Prop}(h:p:=by
 obtain⟨a,n,c,h1,h2,h3,h4,h5,h6⟩:=h;exact⟨a,n,c,h1,h2,h3,h4,h5.keep hc,h6⟩):p:=h
theorem QAf{p:Prop}(h:p:=by
 rw[show((j.toNat:Nat):Int)=j from by omega,(Jz _ _ _).2 hb]at this;simp at this):p:=h
theorem QAg{p:Prop}(h:p:=by
 rw[show((j.toNat:Nat):Int)=j from by omega,(xY _ _ _).2 hb]at this;simp at this):p:=h
theorem QAh{p:Prop}(h:p:=by
 clear hK K;refine QO (rs:=[16]) (by kernel_rfl) (by simp) ?_;refine QA (o:=⟨some 147,_,_,_,_,_⟩) rfl (fun K hK=>?_) ?_
 ·go_simp
  refine(Yl J8 J8 0 (some ⟨bb1,UI,none⟩) n cb pa P B _ _ ((xI.out.Xn (Y1 ‹_›)).imp (fun q hq=>QG hq YH)) hJ8 (by omega) fB hn (by decide)).mono ?_;rintro e w9 ⟨rfl,hJ9,YN,zt⟩;have fu:=XN ‹_› Z5 Z4 YN YH;have l9:=(Zh YN (p:=⟨J4,2,none⟩) xZ).trans l8;have b9:=ZU.trans (YN.mono yM);dsimp only;refine hK.out _ _ fu (fun hHeld=>?_);clear hK K;refine QO (rs:=[19]) (by kernel_rfl) (by simp) ?_;refine QA (o:=⟨some 150,_,_,_,_,_⟩) rfl (fun K hK=>?_) ?_
  ·go_simp
   refine(JV J8 J8 2 (some ⟨bb1,UI,none⟩) n cb P lo hi B _ _ ((xI.out.Xn (Y1 ‹_›)).imp (fun q hq=>QG hq YH)) hJ9 fB hlh (by omega) hn (by decide)).mono ?_;rintro e Lx ⟨rfl,Er,Jj,eO⟩;have IU:=XN ‹_› Z5 Z4 Jj YH;have l10:=(Zh Jj (p:=⟨J4,2,none⟩) xZ).trans l9;have b10:=b9.trans (Jj.mono yM);dsimp only;refine hK.out _ _ IU (fun hHeld=>?_);exact QjP
  exact QI
 exact QI):p:=h
theorem QAi{p:Prop}(h:p:=by
 clear hK K;refine QO (rs:=[19]) (by kernel_rfl) (by simp) ?_;refine QA (o:=⟨some 150,_,_,_,_,_⟩) rfl (fun K hK=>?_) ?_
 ·go_simp
  refine(JV J8 J8 2 (some ⟨bb1,UI,none⟩) n cb P lo hi B _ _ ((xI.out.Xn (Y1 ‹_›)).imp (fun q hq=>QG hq YH)) hJ9 fB hlh (by omega) hn (by decide)).mono ?_;rintro e Lx ⟨rfl,Er,Jj,eO⟩;have IU:=XN ‹_› Z5 Z4 Jj YH;have l10:=(Zh Jj (p:=⟨J4,2,none⟩) xZ).trans l9;have b10:=b9.trans (Jj.mono yM);dsimp only;refine hK.out _ _ IU (fun hHeld=>?_);exact QjP
 exact QI):p:=h
theorem QAl{p:Prop}(h:p:=by
 refine QO (rs:=[19]) (by kernel_rfl) (by simp) ?_;refine QA (o:=⟨some 150,_,_,_,_,_⟩) rfl (fun K hK=>?_) ?_
 ·go_simp
  refine(JV J8 J8 2 (some ⟨bb1,UI,none⟩) n cb P lo hi B _ _ ((xI.out.Xn (Y1 ‹_›)).imp (fun q hq=>QG hq YH)) hJ9 fB hlh (by omega) hn (by decide)).mono ?_;rintro e Lx ⟨rfl,Er,Jj,eO⟩;have IU:=XN ‹_› Z5 Z4 Jj YH;have l10:=(Zh Jj (p:=⟨J4,2,none⟩) xZ).trans l9;have b10:=b9.trans (Jj.mono yM);dsimp only;refine hK.out _ _ IU (fun hHeld=>?_);exact QjP
 exact QI):p:=h
theorem QAm{p:Prop}(h:p:=by
 refine(Yl J8 J8 0 (some ⟨bb1,UI,none⟩) n cb pa P B _ _ ((xI.out.Xn (Y1 ‹_›)).imp (fun q hq=>QG hq YH)) hJ8 (by omega) fB hn (by decide)).mono ?_;rintro e w9 ⟨rfl,hJ9,YN,zt⟩;have fu:=XN ‹_› Z5 Z4 YN YH;have l9:=(Zh YN (p:=⟨J4,2,none⟩) xZ).trans l8;have b9:=ZU.trans (YN.mono yM);dsimp only;refine hK.out _ _ fu (fun hHeld=>?_);clear hK K;refine QO (rs:=[19]) (by kernel_rfl) (by simp) ?_;refine QA (o:=⟨some 150,_,_,_,_,_⟩) rfl (fun K hK=>?_) ?_
 ·go_simp
  refine(JV J8 J8 2 (some ⟨bb1,UI,none⟩) n cb P lo hi B _ _ ((xI.out.Xn (Y1 ‹_›)).imp (fun q hq=>QG hq YH)) hJ9 fB hlh (by omega) hn (by decide)).mono ?_;rintro e Lx ⟨rfl,Er,Jj,eO⟩;have IU:=XN ‹_› Z5 Z4 Jj YH;have l10:=(Zh Jj (p:=⟨J4,2,none⟩) xZ).trans l9;have b10:=b9.trans (Jj.mono yM);dsimp only;refine hK.out _ _ IU (fun hHeld=>?_);exact QjP
 exact QI):p:=h
theorem QAn{p:Prop}(h:p:=by
 refine QA (o:=⟨some 150,_,_,_,_,_⟩) rfl (fun K hK=>?_) ?_
 ·go_simp
  refine(JV J8 J8 2 (some ⟨bb1,UI,none⟩) n cb P lo hi B _ _ ((xI.out.Xn (Y1 ‹_›)).imp (fun q hq=>QG hq YH)) hJ9 fB hlh (by omega) hn (by decide)).mono ?_;rintro e Lx ⟨rfl,Er,Jj,eO⟩;have IU:=XN ‹_› Z5 Z4 Jj YH;have l10:=(Zh Jj (p:=⟨J4,2,none⟩) xZ).trans l9;have b10:=b9.trans (Jj.mono yM);dsimp only;refine hK.out _ _ IU (fun hHeld=>?_);exact QjP
 exact QI):p:=h
theorem QAo{p:Prop}(h:p:=by
 rintro e w9 ⟨rfl,hJ9,YN,zt⟩;have fu:=XN ‹_› Z5 Z4 YN YH;have l9:=(Zh YN (p:=⟨J4,2,none⟩) xZ).trans l8;have b9:=ZU.trans (YN.mono yM);dsimp only;refine hK.out _ _ fu (fun hHeld=>?_);clear hK K;refine QO (rs:=[19]) (by kernel_rfl) (by simp) ?_;refine QA (o:=⟨some 150,_,_,_,_,_⟩) rfl (fun K hK=>?_) ?_
 ·go_simp
  refine(JV J8 J8 2 (some ⟨bb1,UI,none⟩) n cb P lo hi B _ _ ((xI.out.Xn (Y1 ‹_›)).imp (fun q hq=>QG hq YH)) hJ9 fB hlh (by omega) hn (by decide)).mono ?_;rintro e Lx ⟨rfl,Er,Jj,eO⟩;have IU:=XN ‹_› Z5 Z4 Jj YH;have l10:=(Zh Jj (p:=⟨J4,2,none⟩) xZ).trans l9;have b10:=b9.trans (Jj.mono yM);dsimp only;refine hK.out _ _ IU (fun hHeld=>?_);exact QjP
 exact QI):p:=h
theorem QAp{p:Prop}(h:p:=by
 rw[HR.out,HR2.out];have hG:=(hP2.set 0 (.int .i64 (CZ r))).set 1 (.bool (U5 r));obtain⟨q0,q1,-,-⟩:=QD.two hG;refine QV (v:=.tuple #[.agg #[.int .i64 (CZ r),.bool (U5 r)],.int .i64 (O8 r)]) (by simp[results,Tryz.results290,go_sem,q0,q1]) rfl ⟨rfl,?_⟩;exact QkC):p:=h
theorem QAr{p:Prop}(h:p:=by
 have fu:=XN ‹_› Z5 Z4 YN YH;have l9:=(Zh YN (p:=⟨J4,2,none⟩) xZ).trans l8;have b9:=ZU.trans (YN.mono yM);dsimp only;refine hK.out _ _ fu (fun hHeld=>?_);clear hK K;refine QO (rs:=[19]) (by kernel_rfl) (by simp) ?_;refine QA (o:=⟨some 150,_,_,_,_,_⟩) rfl (fun K hK=>?_) ?_
 ·go_simp
  refine(JV J8 J8 2 (some ⟨bb1,UI,none⟩) n cb P lo hi B _ _ ((xI.out.Xn (Y1 ‹_›)).imp (fun q hq=>QG hq YH)) hJ9 fB hlh (by omega) hn (by decide)).mono ?_;rintro e Lx ⟨rfl,Er,Jj,eO⟩;have IU:=XN ‹_› Z5 Z4 Jj YH;have l10:=(Zh Jj (p:=⟨J4,2,none⟩) xZ).trans l9;have b10:=b9.trans (Jj.mono yM);dsimp only;refine hK.out _ _ IU (fun hHeld=>?_);exact QjP
 exact QI):p:=h
theorem QAs{p:Prop}(h:p:=by
 have l9:=(Zh YN (p:=⟨J4,2,none⟩) xZ).trans l8;have b9:=ZU.trans (YN.mono yM);dsimp only;refine hK.out _ _ fu (fun hHeld=>?_);clear hK K;refine QO (rs:=[19]) (by kernel_rfl) (by simp) ?_;refine QA (o:=⟨some 150,_,_,_,_,_⟩) rfl (fun K hK=>?_) ?_
 ·go_simp
  refine(JV J8 J8 2 (some ⟨bb1,UI,none⟩) n cb P lo hi B _ _ ((xI.out.Xn (Y1 ‹_›)).imp (fun q hq=>QG hq YH)) hJ9 fB hlh (by omega) hn (by decide)).mono ?_;rintro e Lx ⟨rfl,Er,Jj,eO⟩;have IU:=XN ‹_› Z5 Z4 Jj YH;have l10:=(Zh Jj (p:=⟨J4,2,none⟩) xZ).trans l9;have b10:=b9.trans (Jj.mono yM);dsimp only;refine hK.out _ _ IU (fun hHeld=>?_);exact QjP
 exact QI):p:=h
theorem QAt{p:Prop}(h:p:=by
 have b9:=ZU.trans (YN.mono yM);dsimp only;refine hK.out _ _ fu (fun hHeld=>?_);clear hK K;refine QO (rs:=[19]) (by kernel_rfl) (by simp) ?_;refine QA (o:=⟨some 150,_,_,_,_,_⟩) rfl (fun K hK=>?_) ?_
 ·go_simp
  refine(JV J8 J8 2 (some ⟨bb1,UI,none⟩) n cb P lo hi B _ _ ((xI.out.Xn (Y1 ‹_›)).imp (fun q hq=>QG hq YH)) hJ9 fB hlh (by omega) hn (by decide)).mono ?_;rintro e Lx ⟨rfl,Er,Jj,eO⟩;have IU:=XN ‹_› Z5 Z4 Jj YH;have l10:=(Zh Jj (p:=⟨J4,2,none⟩) xZ).trans l9;have b10:=b9.trans (Jj.mono yM);dsimp only;refine hK.out _ _ IU (fun hHeld=>?_);exact QjP
 exact QI):p:=h
theorem QA0{p:Prop}(h:p:=by
 refine(JV J8 J8 2 (some ⟨bb1,UI,none⟩) n cb P lo hi B _ _ ((xI.out.Xn (Y1 ‹_›)).imp (fun q hq=>QG hq YH)) hJ9 fB hlh (by omega) hn (by decide)).mono ?_;rintro e Lx ⟨rfl,Er,Jj,eO⟩;have IU:=XN ‹_› Z5 Z4 Jj YH;have l10:=(Zh Jj (p:=⟨J4,2,none⟩) xZ).trans l9;have b10:=b9.trans (Jj.mono yM);dsimp only;refine hK.out _ _ IU (fun hHeld=>?_);exact QjP):p:=h
theorem QA1{p:Prop}(h:p:=by
 dsimp only;refine hK.out _ _ fu (fun hHeld=>?_);clear hK K;refine QO (rs:=[19]) (by kernel_rfl) (by simp) ?_;refine QA (o:=⟨some 150,_,_,_,_,_⟩) rfl (fun K hK=>?_) ?_
 ·go_simp
  refine(JV J8 J8 2 (some ⟨bb1,UI,none⟩) n cb P lo hi B _ _ ((xI.out.Xn (Y1 ‹_›)).imp (fun q hq=>QG hq YH)) hJ9 fB hlh (by omega) hn (by decide)).mono ?_;rintro e Lx ⟨rfl,Er,Jj,eO⟩;have IU:=XN ‹_› Z5 Z4 Jj YH;have l10:=(Zh Jj (p:=⟨J4,2,none⟩) xZ).trans l9;have b10:=b9.trans (Jj.mono yM);dsimp only;refine hK.out _ _ IU (fun hHeld=>?_);exact QjP
 exact QI):p:=h
theorem QA2{p:Prop}(h:p:=by
 refine hK.out _ _ fu (fun hHeld=>?_);clear hK K;refine QO (rs:=[19]) (by kernel_rfl) (by simp) ?_;refine QA (o:=⟨some 150,_,_,_,_,_⟩) rfl (fun K hK=>?_) ?_
 ·go_simp
  refine(JV J8 J8 2 (some ⟨bb1,UI,none⟩) n cb P lo hi B _ _ ((xI.out.Xn (Y1 ‹_›)).imp (fun q hq=>QG hq YH)) hJ9 fB hlh (by omega) hn (by decide)).mono ?_;rintro e Lx ⟨rfl,Er,Jj,eO⟩;have IU:=XN ‹_› Z5 Z4 Jj YH;have l10:=(Zh Jj (p:=⟨J4,2,none⟩) xZ).trans l9;have b10:=b9.trans (Jj.mono yM);dsimp only;refine hK.out _ _ IU (fun hHeld=>?_);exact QjP
 exact QI):p:=h
theorem QA3{p:Prop}(h:p:=by
 rintro e Lx ⟨rfl,Er,Jj,eO⟩;have IU:=XN ‹_› Z5 Z4 Jj YH;have l10:=(Zh Jj (p:=⟨J4,2,none⟩) xZ).trans l9;have b10:=b9.trans (Jj.mono yM);dsimp only;refine hK.out _ _ IU (fun hHeld=>?_);exact QjP):p:=h
theorem QA4{p:Prop}(h:p:=by
 rw[HR3.out];have hG:=(hP2.set 0 (.int .i64 (0))).set 1 (.bool false);obtain⟨q0,q1,-,-⟩:=QD.two hG;refine QV (v:=.tuple #[.agg #[.int .i64 (0),.bool false],.int .i64 5]) (by simp[results,Tryz.results289,go_sem,q0,q1]) rfl ⟨rfl,?_⟩;exact QkC):p:=h
theorem QA5{p:Prop}(h:p:=by
 clear hk2;go_enter Tryz.func301,Tryz.ntmps301
 go_wp2_with ((go_at_call 300);refine(YI a n c l k m _ big _ hI HN.out hn2 hk hm).mono ?_;rintro e w2 ⟨rfl,hb2⟩;rw[HT.out];have hB2:=hB.below hb2 hB.lt;obtain⟨d0,d1,d2,d3⟩:=hB2.four;have hP2:=hP.below hb2 hP.lt;obtain⟨s0,s1,s2,s3⟩:=hP2.two;have Qc:=QW hacc (by simp;omega) hb2)
 rw[HR.out];have hG:=(hP2.set 0 (.int .i64 (0))).set 1 (.bool false);obtain⟨q0,q1,-,-⟩:=QD.two hG;refine QV (v:=.tuple #[.agg #[.int .i64 (0),.bool false],.int .i64 5]) (by simp[results,Tryz.results301,go_sem,q0,q1]) rfl ⟨rfl,?_⟩;exact QkC):p:=h
theorem QA6{p:Prop}(h:p:=by
 have IU:=XN ‹_› Z5 Z4 Jj YH;have l10:=(Zh Jj (p:=⟨J4,2,none⟩) xZ).trans l9;have b10:=b9.trans (Jj.mono yM);dsimp only;refine hK.out _ _ IU (fun hHeld=>?_);exact QjP):p:=h
theorem QA7{p:Prop}(h:p:=by
 go_enter Tryz.func302,Tryz.ntmps302
 go_wp2_with ((go_at_call 300);refine(Kl a n c l k m _ big _ hI HN.out hn2 hk hm).mono ?_;rintro e w2 ⟨rfl,hb2⟩;rw[HT.out];have hB2:=hB.below hb2 hB.lt;obtain⟨d0,d1,d2,d3⟩:=hB2.four;have hP2:=hP.below hb2 hP.lt;obtain⟨s0,s1,s2,s3⟩:=hP2.two;have Qc:=QW hacc (by simp;omega) hb2)
 rw[HR.out];have hG:=(hP2.set 0 (.int .i64 (t))).set 1 (.bool true);obtain⟨q0,q1,-,-⟩:=QD.two hG;refine QV (v:=.tuple #[.agg #[.int .i64 (t),.bool true],.int .i64 0]) (by simp[results,Tryz.results302,go_sem,q0,q1]) rfl ⟨rfl,?_⟩;exact QkC):p:=h
theorem QA8{p:Prop}(h:p:=by
 rw[HR.out,HT.out];have hG:=(hP2.set 0 (.int .i64 (t))).set 1 (.bool false);obtain⟨q0,q1,-,-⟩:=QD.two hG;refine QV (v:=.tuple #[.agg #[.int .i64 (t),.bool false],.int .i64 0]) (by simp[results,Tryz.results290,go_sem,q0,q1]) rfl ⟨rfl,?_⟩;exact QkC):p:=h
theorem QA9{p:Prop}(h:p:=by
 have l10:=(Zh Jj (p:=⟨J4,2,none⟩) xZ).trans l9;have b10:=b9.trans (Jj.mono yM);dsimp only;refine hK.out _ _ IU (fun hHeld=>?_);exact QjP):p:=h
theorem QAw{p:Prop}(h:p:=by
 go_enter Tryz.func298,Tryz.ntmps298
 go_wp2;rw[HR.out,HM.out];have hG:=(hP.set 0 (.int .i64 ((k:Int)+m))).set 1 (.bool false);obtain⟨q0,q1,-,-⟩:=QD.two hG;refine QV (v:=.tuple #[.agg #[.int .i64 ((k:Int)+m),.bool false],.int .i64 0]) (by simp[results,Tryz.results298,go_sem,q0,q1]) rfl ⟨rfl,?_⟩;exact QkN):p:=h
theorem QBQ{p:Prop}(h:p:=by
 have b10:=b9.trans (Jj.mono yM);dsimp only;refine hK.out _ _ IU (fun hHeld=>?_);exact QjP):p:=h
theorem QBZ{p:Prop}(h:p:=by
 have hX:=KJ.start w f r o s 0;obtain⟨b1,b2,b3,b4,b5⟩:=YR hp;have HP:=QQ hp;clear hp;rw[KU hu,hk,if_neg (by omega),if_neg (by omega),if_neg (by omega),if_pos (by omega)];have u1:32<=key:=by unfold XX at hu;omega
 have u2:(key==127)=false:=by unfold XX at hu;simp;omega
 clear hu;have HK:=QQ hk;clear hk;exact QkD):p:=h
theorem QBX{p:Prop}(h:p:=by
 go_enter Tryz.func298,Tryz.ntmps298
 go_wp2;rw[HR.out];have hG:=(hP.set 0 (.int .i64 (0))).set 1 (.bool false);obtain⟨q0,q1,-,-⟩:=QD.two hG;refine QV (v:=.tuple #[.agg #[.int .i64 (0),.bool false],.int .i64 5]) (by simp[results,Tryz.results298,go_sem,q0,q1]) rfl ⟨rfl,?_⟩;exact QkN):p:=h
theorem QBY{p:Prop}(h:p:=by
 rw[HR.out];have hG:=(hP2.set 0 (.int .i64 (0))).set 1 (.bool false);obtain⟨q0,q1,-,-⟩:=QD.two hG;refine QV (v:=.tuple #[.agg #[.int .i64 (0),.bool false],.int .i64 5]) (by simp[results,Tryz.results303,go_sem,q0,q1]) rfl ⟨rfl,?_⟩;exact QkC):p:=h
theorem QBJ{p:Prop}(h:p:=by
 have hG:=(hP.set 0 (.int .i64 (0))).set 1 (.bool false);obtain⟨q0,q1,-,-⟩:=QD.two hG;refine QV (v:=.tuple #[.agg #[.int .i64 (0),.bool false],.int .i64 0]) (by simp[results,Tryz.results290,go_sem,q0,q1]) rfl ⟨rfl,?_⟩;exact QkN):p:=h
theorem QBK{p:Prop}(h:p:=by
 dsimp only;refine hK.out _ _ IU (fun hHeld=>?_);exact QjP):p:=h
theorem QBU{p:Prop}(h:p:=by
 go_wp2
 go_end0
 have h1:=HA.out.store (S':={S with pos:=max 0 (S.pos-1)}) 1 (.int .i64 0) {HA.out.hf.d with pos:=by rw[<-HSP.out];rfl};exact Quj):p:=h
theorem QBV{p:Prop}(h:p:=by
 have x3:(cm.c==121)=false:=by rw[e];rfl
 clear e;exact Quy):p:=h
theorem QBW{p:Prop}(h:p:=by
 refine hK.out _ _ IU (fun hHeld=>?_);exact QjP):p:=h
theorem QBq{p:Prop}(h:p:=by
 go_enter Tryz.func84,Tryz.ntmps84
 go_wp2_with fail
 refine HB.out.mono ?_;rintro e w7 ⟨rfl,hv⟩;exact Qvz):p:=h
theorem QBz{p:Prop}(h:p:=by
 obtain⟨a,n,c,h1,h2,h3,h4,h5,h6,h7⟩:=h;refine⟨a,n,c,h1,h2,h3,h4,h5,h6,fun ad e p=>⟨h7 ad e p,?_⟩⟩;exact Quh):p:=h
theorem QBx{p:Prop}(h:p:=by
 obtain⟨a,n,c,h1,h2,h3,h4,h5,h6⟩:=h;refine⟨a,n,c,h1,h2,h3,h4,h5,h6,fun ad e p=>?_⟩;exact Quh):p:=h
theorem QBy{p:Prop}(h:p:=by
 clear hbx;go_enter Tryz.func289,Tryz.ntmps289
 go_wp2_with ((go_at_call 297);refine(KG a n c l k m op arg _ hI HN.out hn2 hk hm0 (by omega)).mono ?_;rintro e w2 ⟨rfl,hb2⟩;rw[HR2.out];have hB2:=hB.below hb2 hB.lt;obtain⟨d0,d1,d2,d3⟩:=hB2.four;have hP2:=hP.below hb2 hP.lt;obtain⟨s0,s1,s2,s3⟩:=hP2.two;have Qc:=QW hacc (by simp;omega) hb2;have z1:gJ none=0:=rfl;have z2:gY none=5:=rfl)
 exact QA4):p:=h
theorem QBj{p:Prop}(h:p:=by
 clear hbx;go_enter Tryz.func289,Tryz.ntmps289
 go_wp2_with ((go_at_call 297);refine(JN a n c l k m op arg _ hI HN.out hn2 hk hm0 (by omega)).mono ?_;rintro e w2 ⟨rfl,hb2⟩;rw[HR2.out];have hB2:=hB.below hb2 hB.lt;obtain⟨d0,d1,d2,d3⟩:=hB2.four;have hP2:=hP.below hb2 hP.lt;obtain⟨s0,s1,s2,s3⟩:=hP2.two;have Qc:=QW hacc (by simp;omega) hb2;have z1:gJ none=0:=rfl;have z2:gY none=5:=rfl)
 exact QA4):p:=h
end Go.Proofs.YtmdcencmiopmmaaGreat

/- ends of proofs that stand more than once, each a theorem whose hypothesis its own tactics prove. -/
import Derived.WalkKit
import Derived.WalkSpells
import Derived.WalkLawsBesides
import Derived.Lib.Hide
import Derived.Below
import Derived.Deep.QuietTactic
import Derived.BigQuiet
import Derived.Handy
import Derived.Lib.SliceRun
import Derived.Deep.OwnRows
import Derived.Deep.MidRow
import Derived.Laws.Rows
import Derived.Deep.DeepCutAuto
import Derived.Deep.CutBlock
import Derived.Lib.AppendZeros
import Derived.Deep.RegionHeld3
import Derived.Deep.RegionLaw
import Derived.Deep.AppendLies
import Derived.Maps.Own
import Derived.Maps.Views
import Derived.Maps.OwnOps
import Derived.Maps.AppendAt
import Derived.Lib.ConvBytes
import Derived.Deep.Light
import Derived.Deep.LoopGhost
import Derived.Laws.CopyOwn
import Derived.Shelf.Bits.Mul64
import Derived.Lib.Bits
import Derived.Laws.BytesString
import Derived.Laws.Runes
import Derived.Laws.IdiomStrings
import Derived.Lib.RuneBytes
import Derived.Lib.QuoteBits
import Derived.Laws.RangeAny
import Derived.Laws.Cover4
import Derived.ProofKit
import Derived.OpenShut
set_option linter.unusedVariables false
set_option linter.unusedSimpArgs false
set_option maxRecDepth 100000
set_option maxHeartbeats 12000000
namespace Go.Proofs.YtmdnepkekekncaaGreat
open Go.RowKit
theorem Zy{p:Prop}(h:p):Hid p:=h
theorem Zj:type_of% @List.setIfInBounds_toArray:=@List.setIfInBounds_toArray
theorem Zk:type_of% @List.set_cons_zero:=@List.set_cons_zero
theorem Zu:type_of% @World.size_alloc:=@World.size_alloc
theorem Zv:type_of% @List.set_cons_succ:=@List.set_cons_succ
theorem ZA:type_of% @Nat.le_succ:=@Nat.le_succ
theorem ZB:type_of% @Nat.le_refl:=@Nat.le_refl
theorem ZC:type_of% @bodyPost_ret:=@bodyPost_ret
theorem ZF:type_of% @Nat.lt_succ_self:=@Nat.lt_succ_self
theorem ZG:type_of% @decide_eq_false_iff_not:=@decide_eq_false_iff_not
theorem ZH:type_of% @Below.refl:=@Below.refl
theorem ZI:type_of% @List.contains_eq_mem:=@List.contains_eq_mem
theorem ZL:type_of% @Option.some.injEq:=@Option.some.injEq
theorem ZM:type_of% @List.eq_nil_of_length_eq_zero:=@List.eq_nil_of_length_eq_zero
theorem ZN:type_of% @List.length_append:=@List.length_append
theorem ZO:type_of% @List.not_mem_nil:=@List.not_mem_nil
theorem ZT:type_of% @AllReadyH.cons:=@AllReadyH.cons
theorem Zb:type_of% @List.mem_cons:=@List.mem_cons
theorem Zc:type_of% @Nat.lt_of_lt_of_le:=@Nat.lt_of_lt_of_le
theorem Zf:type_of% @Nat.le_trans:=@Nat.le_trans
theorem Zg:type_of% @List.getD_eq_getElem?_getD:=@List.getD_eq_getElem?_getD
theorem Zh:type_of% @AllReadyH.nil:=@AllReadyH.nil
theorem Zi:type_of% @List.length_take:=@List.length_take
theorem Zl:type_of% @Below.heap_setCell:=@Below.heap_setCell
theorem Zn:type_of% @wpAnyH_ready:=@wpAnyH_ready
theorem Zt:type_of% @Bool.false_eq_true:=@Bool.false_eq_true
theorem Z4:type_of% @Nat.zero_le:=@Nat.zero_le
theorem Z5:type_of% @Classical.byContradiction:=@Classical.byContradiction
theorem Z6:type_of% @List.take_of_length_le:=@List.take_of_length_le
theorem Z8:type_of% @List.getElem?_eq_getElem:=@List.getElem?_eq_getElem
theorem Z9:type_of% @Nat.lt_or_ge:=@Nat.lt_or_ge
theorem Zw:type_of% @Int.eq_ofNat_of_zero_le:=@Int.eq_ofNat_of_zero_le
theorem XZ:type_of% @Nat.lt_succ_iff_lt_or_eq:=@Nat.lt_succ_iff_lt_or_eq
theorem XX:type_of% @beq_eq_false_iff_ne:=@beq_eq_false_iff_ne
theorem XK:type_of% @Int.toNat_natCast:=@Int.toNat_natCast
theorem XV:type_of% @List.getElem?_append_right:=@List.getElem?_append_right
theorem XW:type_of% @And.right:=@And.right
theorem Xq:type_of% @List.length_cons:=@List.length_cons
theorem Xx:type_of% @List.take_succ_eq_append_getElem:=@List.take_succ_eq_append_getElem
theorem Xy:type_of% @Value.slice.injEq:=@Value.slice.injEq
theorem Xk:type_of% @List.length_drop:=@List.length_drop
theorem XA:type_of% @World.size_drew:=@World.size_drew
theorem XC:type_of% @World.ownsRow.lt:=@World.ownsRow.lt
theorem XD:type_of% @congrArg:=@congrArg
theorem XI:type_of% @Nat.zero_add:=@Nat.zero_add
theorem XL:type_of% @Nat.lt_trichotomy:=@Nat.lt_trichotomy
theorem XM:type_of% @List.getElem?_append_left:=@List.getElem?_append_left
theorem XN:type_of% @List.mem_iff_getElem:=@List.mem_iff_getElem
theorem XO:type_of% @List.mem_append:=@List.mem_append
theorem XR:type_of% @info_parts:=@info_parts
theorem Xa:type_of% @IntKind.wrap_i64:=@IntKind.wrap_i64
theorem Xe:type_of% @decide_eq_true_eq:=@decide_eq_true_eq
theorem Xf:type_of% @Nat.eq_zero_or_pos:=@Nat.eq_zero_or_pos
theorem Xh:type_of% @Nat.le_of_lt:=@Nat.le_of_lt
theorem Xi:type_of% @List.length_pos_iff:=@List.length_pos_iff
theorem Xn:type_of% @Nat.le_add_right:=@Nat.le_add_right
theorem X3:type_of% @if_false:=@if_false
theorem X4:type_of% @List.mem_of_getElem?:=@List.mem_of_getElem?
theorem X5:type_of% @World.cell?_setCell_other:=@World.cell?_setCell_other
theorem YQ:type_of% @List.getElem_mem:=@List.getElem_mem
theorem YX:type_of% @IntWalk.i64_in:=@IntWalk.i64_in
theorem YJ:type_of% @Nat.min_eq_left:=@Nat.min_eq_left
theorem YK:type_of% @List.length_set:=@List.length_set
theorem YU:type_of% @List.length_map:=@List.length_map
theorem Yq:type_of% @Nat.add_zero:=@Nat.add_zero
theorem Yz:type_of% @Int.lt_or_le:=@Int.lt_or_le
theorem Yu:type_of% @World.ownsRow_nil:=@World.ownsRow_nil
theorem YD:type_of% @List.length_replicate:=@List.length_replicate
theorem YP:type_of% @Prod.mk.injEq:=@Prod.mk.injEq
theorem YR:type_of% @Addr.mk.injEq:=@Addr.mk.injEq
theorem Y0:type_of% @wpAnyH_done:=@wpAnyH_done
theorem Y1:type_of% @run_underlying:=@run_underlying
theorem Y4:type_of% @Result.andThen_ok:=@Result.andThen_ok
theorem Y6:type_of% @all_oneCell_toArray:=@all_oneCell_toArray
theorem Ze{P:Program}{ops:Array Oper}{Q:Exit->Act->World->Prop}{md:Region.Mode}{S:World->Prop}(i:Nat)(oi:Oper)(v:Value){fuel:Nat}{listed:Array Bool}{a:Act}{w:World}(h:wpAnyH P md ops Q S fuel (listed.setIfInBounds i true) (a.put oi.dst v) w)(hi:ops[i]? =some oi:=by rfl)(hs:Region.noSelect ops=true:=by kernel_rfl)(hf:Region.free md ops listed i=true:=by kernel_rfl)(hr:(Region.ready md ops listed).contains i=true:=by kernel_rfl)(hQ:∀c a w,Q (.panic c) (a.put oi.dst v) w->Q (.panic c) a w:=by exact fun _ _ _ h=>h)(hy:YieldsIf P ops S oi v a:=by exact Or.inl ⟨by rfl,fun w hSw=>by(dsimp only at hSw;go_simp)⟩)(hS:S w:=by assumption):wpAnyH P md ops Q S (fuel+1) listed a w:=wpAnyH_take hi hs hf hr hQ hy hS h
theorem QQ{p:Prop}(h:p:=by omega):p:=h
theorem QZ{p:Prop}(h:p:=by decide):p:=h
theorem QX{p:Prop}(h:p:=by kernel_rfl):p:=h
theorem QY{p:Prop}(h:p:=by simp;omega):p:=h
theorem QJ{p:Prop}(h:p:=by simp):p:=h
theorem QK{p:Prop}(h:p:=by simp[results,Tryz.results176,go_sem,q0,q1]):p:=h
theorem QU{p:Prop}(h:p:=by show p.block≠w.heap.size+1;omega):p:=h
theorem QV{p:Prop}(h:p:=by show w.heap.size<=w.heap.size+2;omega):p:=h
theorem QW{p:Prop}(h:p:=by rw[HN.out];exact hlt):p:=h
theorem Qq{p:Prop}(h:p:=by rw[<-hls.len];exact hl1):p:=h
theorem Qz{p:Prop}(h:p:=by simp[results,Tryz.results160,go_sem,y0,y1,y2,x0,x1]):p:=h
theorem Qx{p:Prop}(h:p:=by simp[results,Tryz.results80,go_sem,y0,y1,y2,y3,y4,y5,X7]):p:=h
theorem Qy{p:Prop}(h:p:=by go_num):p:=h
theorem Qj{p:Prop}(h:p:=by show w.heap.size<=w.heap.size+4;omega):p:=h
theorem Qk{p:Prop}(h:p:=by simp[results,Tryz.results62,go_sem,TK.more,TK.q,TK.c,y0,y1,y2,y3,y4,z0,z1,z2,z3,z4]):p:=h
theorem Qu{p:Prop}(h:p:=by have e:cm=s.cm:=by {rw[<-HL.out,yK.out,JM.out HK.out,<-HC.out]};rw[e];exact(HX.out.to Wi.out).alloc _):p:=h
theorem Qv{p:Prop}(h:p:=by show w.heap.size<=w2.heap.size;omega):p:=h
theorem QA{p:Prop}(h:p:=by simp[results,Tryz.results84,go_sem,y0,y1]):p:=h
theorem QB{p:Prop}(h:p:=by rw[HN.out];omega):p:=h
theorem QC{p:Prop}(h:p:=by show w.heap.size<=w2.heap.size+1;omega):p:=h
theorem QD{p:Prop}(h:p:=by show w.heap.size<=w.heap.size+3;omega):p:=h
theorem QE{p:Prop}(h:p:=by have:=hok.len;have:=hok.UQ;simp only at *;omega):p:=h
theorem QF{p:Prop}(h:p:=by unfold Addr.add;split<;>simp_all):p:=h
theorem QG{p:Prop}(h:p:=by refine Zp.call hb5 ?_;repeat' (first|(with_reducible exact ZH _ _)|(with_reducible refine Zp.alloc ?_)|(with_reducible refine Zp.drew ?_))):p:=h
theorem QH{p:Prop}(h:p:=by rw[HL.out];exact hlt):p:=h
theorem QI{p:Prop}(h:p:=by assumption):p:=h
theorem QL{p:Prop}(h:p:=by simp[results,Tryz.results152,go_sem,y0,y1,y2,y3,y4]):p:=h
theorem QM{p:Prop}(h:p:=by first|rfl|exact drewN_drewN _ _ _):p:=h
theorem QN{p:Prop}(h:p:=by have e:cm=c':=HL.out.symm.trans yK.out;rw[e];exact(Rt.out.jS c').alloc _):p:=h
theorem QO{p:Prop}(h:p:=by unfold YH at hu;simp;omega):p:=h
theorem QP{p:Prop}(h:p:=by simp[results,Tryz.results175,go_sem,q0,q1]):p:=h
theorem QR{p:Prop}(h:p:=by rw[Jq];exact hE):p:=h
theorem QS{p:Prop}(h:p:=by simp at hi;omega):p:=h
theorem QT{p:Prop}(h:p:=by first|(with_reducible assumption)|(with_reducible exact ZB _)|(with_reducible exact ZA _)|omega|(simp only[Zu,World.size_setCell,XA];omega)):p:=h
theorem Qa{p:Prop}(h:p:=by simp only[Jg,if_true,X3,Zt]at hs;omega):p:=h
theorem Qb{p:Prop}(h:p:=by show w.heap.size+1≠w6.heap.size;omega):p:=h
theorem Qc{p:Prop}(h:p:=by show w.heap.size<=w6.heap.size;omega):p:=h
theorem Qd{p:Prop}(h:p:=by have:=HX.out;rw[<-HL.out,yK.out,<-HC.out];exact this):p:=h
theorem Qe{p:Prop}(h:p:=by unfold YH at hu;omega):p:=h
theorem Qf{p:Prop}(h:p:=by simp[results,Tryz.results62,go_sem,TK.wrong,TK.q,TK.c,y0,y1,y2,y3,y4,z0,z1,z2,z3,z4]):p:=h
theorem Qg{p:Prop}(h:p:=by unfold maxLen;omega):p:=h
theorem Qh{p:Prop}(h:p:=by unfold Func.isWrapper;first|(rw[if_pos (by decide+kernel)];kernel_rfl)|(rw[if_neg (by decide+kernel)];exact⟨rfl,rfl⟩)):p:=h
theorem Qi{p:Prop}(h:p:=by simp[results,Tryz.results96,go_sem,y0,y1,y2,y3,y4,y5,X7]):p:=h
theorem Ql{p:Prop}(h:p:=by show p.block≠w6.heap.size;omega):p:=h
theorem Qm{p:Prop}(h:p:=by simp[results,Tryz.results183,go_sem,q0,q1]):p:=h
theorem Qn{p:Prop}(h:p:=by have:=hI.tl;omega):p:=h
theorem Qo{p:Prop}(h:p:=by dsimp only;omega):p:=h
theorem Qp{p:Prop}(h:p:=by simp[intOf];omega):p:=h
theorem Qr{p:Prop}(h:p:=by have:=HD.out;simp only[YB,ZI,Zb,ZO,ZG,not_or]at this;simpa using this.2.2.2.2.2.2.2.2.2.2.2.2.2.2.2.2.2.2.1):p:=h
theorem Qs{p:Prop}(h:p:=by have:=HD.out;simp only[YB,ZI,Zb,ZO,ZG,not_or]at this;simpa using this.2.2.2.2.2.2.2.2.2.2.2.2.2.2.2.2.2.1):p:=h
theorem Qt{p:Prop}(h:p:=by have:=HD.out;simp only[YB,ZI,Zb,ZO,ZG,not_or]at this;simpa using this.2.2.2.2.2.2.2.2.2.2.2.2.2.2.2.2.1):p:=h
theorem Q0{p:Prop}(h:p:=by have:=HD.out;simp only[YB,ZI,Zb,ZO,ZG,not_or]at this;simpa using this.2.2.2.2.2.2.2.2.2.2.2.2.2.2.2.1):p:=h
theorem Q5{p:Prop}(h:p:=by show w.heap.size+1≠w2.heap.size;omega):p:=h
theorem Q6{p:Prop}(h:p:=by have:=HD.out;simp only[YB,ZI,Zb,ZO,ZG,not_or]at this;simpa using this.2.2.2.2.2.2.2.2.2.2.2.2.2.2.1):p:=h
theorem Q7{p:Prop}(h:p:=by simpa using h0):p:=h
theorem Q8{p:Prop}(h:p:=by rw[IY.out];exact Wj _ _ _ _ _ _ _ _ rfl a5 n5 k5 S n43 a8 n8 k8 rfl rfl rfl rfl rfl rfl rfl rfl w):p:=h
theorem Q9{p:Prop}(h:p:=by have:=HD.out;simp only[YB,ZI,Zb,ZO,ZG,not_or]at this;simpa using this.2.2.2.2.2.2.2.2.2.2.2.2.2.1):p:=h
theorem Qw{p:Prop}(h:p:=by have:=LL.out k (by show k<ls.length;rw[Vf.out];exact hkl);omega):p:=h
theorem ZQ{p:Prop}(h:p:=by have:=HD.out;simp only[YB,ZI,Zb,ZO,ZG,not_or]at this;simpa using this.2.2.2.2.2.2.2.2.2.2.2.2.1):p:=h
theorem ZZ{p:Prop}(h:p:=by have:=HD.out;simp only[YB,ZI,Zb,ZO,ZG,not_or]at this;simpa using this.2.2.2.2.2.2.2.2.2.2.2.1):p:=h
theorem ZX{p:Prop}(h:p:=by rw[hb.block g (Array.getElem?_eq_some_iff.1 hgg).1];exact hgg):p:=h
theorem ZY{p:Prop}(h:p:=by rw[XX];rintro rfl;simp[xW]at h):p:=h
theorem ZJ{p:Prop}(h:p:=by have:=HD.out;simp only[YB,ZI,Zb,ZO,ZG,not_or]at this;simpa using this.2.2.2.2.2.2.2.2.2.2.1):p:=h
theorem ZK{p:Prop}(h:p:=by simp[results,Tryz.results186,go_sem,q0,q1]):p:=h
theorem ZU{p:Prop}(h:p:=by simp[results,Tryz.results116,go_sem,y0,y1,y2,y3,y4,y5,X7]):p:=h
theorem ZV{p:Prop}(h:p:=by rw[HP.out];omega):p:=h
theorem ZW{p:Prop}(h:p:=by have:=HD.out;simp only[YB,ZI,Zb,ZO,ZG,not_or]at this;simpa using this.2.2.2.2.2.2.2.2.2.1):p:=h
theorem Zq{p:Prop}(h:p:=by simp[results,Tryz.results95,go_sem,y0,y1,y2,y3,y4,y5,X7]):p:=h
theorem Zz{p:Prop}(h:p:=by simp[results,Tryz.results94,go_sem,y0,y1,y2,y3,y4,y5,X7]):p:=h
theorem Zx{p:Prop}(h:p:=by simp[results,Tryz.results81,go_sem,y0,y1,y2,y3,y4,y5,X7]):p:=h
theorem QCr{p:Prop}(h:p:=by have:=HD.out;simp only[YB,ZI,Zb,ZO,ZG,not_or]at this;simpa using this.2.2.2.2.2.2.2.2.1):p:=h
theorem QCs{p:Prop}(h:p:=by simp[results,Tryz.results62,go_sem,TK.done,TK.q,TK.c,y0,y1,y2,y3,y4,z0,z1,z2,z3,z4]):p:=h
theorem QCt{p:Prop}(h:p:=by have:=HD.out;simp only[YB,ZI,Zb,ZO,ZG,not_or]at this;simpa using this.2.2.2.2.2.2.2.1):p:=h
theorem QC0{p:Prop}(h:p:=by rw[ZP (by omega)];exact h.ur i hi):p:=h
theorem QC1{p:Prop}(h:p:=by have:=HD.out;simp only[YB,ZI,Zb,ZO,ZG,not_or]at this;simpa using this.2.2.2.2.2.2.1):p:=h
theorem QC2{p:Prop}(h:p:=by have:=HD.out;simp only[YB,ZI,Zb,ZO,ZG,not_or]at this;simpa using this.2.2.2.2.2.1):p:=h
theorem QC3{p:Prop}(h:p:=by rw[ui.out];exact hkl):p:=h
theorem QC4{p:Prop}(h:p:=by first|rfl|trivial):p:=h
theorem QC5{p:Prop}(h:p:=by show _<(((w.alloc (.cells #[.int .i64 0,.int .i64 0] 46)).alloc (.cells #[.int .i64 0,.int .i64 0,.int .i64 0] 243)).drew).heap.size;simp only[XA,Zu];omega):p:=h
theorem QC6{p:Prop}(h:p:=by show _<(((w.alloc (.cells #[.int .i64 0,.int .i64 0,.int .i64 0] 243)).alloc (.cells #[.int .i64 0,.int .i64 0] 46)).drew).heap.size;simp only[XA,Zu];omega):p:=h
theorem QC7{p:Prop}(h:p:=by have:=HD.out;simp only[YB,ZI,Zb,ZO,ZG,not_or]at this;simpa using this.2.2.2.2.1):p:=h
theorem QC8{p:Prop}(h:p:=by unfold maxLen at hm;omega):p:=h
theorem QC9{p:Prop}(h:p:=by have:=HD.out;simp only[YB,ZI,Zb,ZO,ZG,not_or]at this;simpa using this.2.2.2.1):p:=h
theorem QCw{p:Prop}(h:p:=by rw[hc 1 (by omega) (by omega)];simp):p:=h
theorem QDQ{p:Prop}(h:p:=by have:=HD.out;simp only[YB,ZI,Zb,ZO,ZG,not_or]at this;simpa using this.2.2.1):p:=h
theorem QDZ{p:Prop}(h:p:=by have:=HD.out;simp only[YB,ZI,Zb,ZO,ZG,not_or]at this;simpa using this.2.1):p:=h
theorem QDX{p:Prop}(h:p:=by have:=HE.out;rw[HD.out]at this;simpa using this):p:=h
theorem QDY{p:Prop}(h:p:=by have:=HD.out;simp only[YB,ZI,Zb,ZO,ZG,not_or]at this;simpa using this.1):p:=h
theorem QDJ{p:Prop}(h:p:=by rw[Xa];omega):p:=h
theorem QDK{p:Prop}(h:p:=by rw[bX.out];exact hlt):p:=h
theorem QDU{p:Prop}(h:p:=by refine Zp.call hb6 ?_;repeat' (first|(with_reducible exact JR)|(with_reducible refine Zp.alloc ?_)|(with_reducible refine Zp.drew ?_))):p:=h
theorem QDV{p:Prop}(h:p:=by rw[Zu];omega):p:=h
theorem QDW{p:Prop}(h:p:=by rw[HB.out];omega):p:=h
theorem QDq{p:Prop}(h:p:=by rw[HA.out];omega):p:=h
theorem QDz{p:Prop}(h:p:=by rw[e];rfl):p:=h
theorem QDx{p:Prop}(h:p:=by have:=XH.size;simp only[XA,Zu]at this;omega):p:=h
theorem QDy{p:Prop}(h:p:=by rw[HE.out];exact hA3.done):p:=h
theorem QDj{p:Prop}(h:p:=by have:=hown.row k hk;omega):p:=h
theorem QDk{p:Prop}(h:p:=by cases e):p:=h
theorem QDu{p:Prop}(h:p:=by rfl):p:=h
theorem QDv{p:Prop}(h:p:=by show w.heap.size+2<=w5.heap.size;omega):p:=h
theorem QDA{p:Prop}(h:p:=by simpa using h):p:=h
theorem QDB{p:Prop}(h:p:=by show k<ls.length;rw[Vf.out];exact hkl):p:=h
theorem QDC{p:Prop}(h:p:=by rw[<-e1];exact jw h0 hn):p:=h
theorem QDD{p:Prop}(h:p:=by show w.heap.size<=w5.heap.size;omega):p:=h
theorem QDE{p:Prop}(h:p:=by simp only[if_true,X3,Zt]at hb;omega):p:=h
theorem QDF{p:Prop}(h:p:=by rw[hc 2 (by omega) (by omega)];simp):p:=h
theorem QDG{p:Prop}(h:p:=by show w2.heap.size<_;omega):p:=h
theorem QDH{p:Prop}(h:p:=by rw[HN.out];exact hin):p:=h
theorem QDI{p:Prop}(h:p:=by rw[hq];exact hk):p:=h
theorem QDL{p:Prop}(h:p:=by have:=hok.Ut;simp only at this;omega):p:=h
theorem QDM{p:Prop}(h:p:=by have:=hI.len;simp only[ZN,Zi,Xk,List.length_nil];omega):p:=h
theorem QDN{p:Prop}(h:p:=by dsimp only at h;omega):p:=h
theorem QDO{p:Prop}(h:p:=by have:=hok.len;have:=hok.UQ;omega):p:=h
theorem QDP{p:Prop}(h:p:=by rw[HX2.out,HXB.out.1];exact hbt):p:=h
theorem QDR{p:Prop}(h:p:=by simp only[Jg,if_true,X3,Zt];omega):p:=h
theorem QDS{p:Prop}(h:p:=by rw[hS0]):p:=h
theorem QDT{p:Prop}(h:p:=by decide+kernel):p:=h
theorem QDa{p:Prop}(h:p:=by rw[Vf.out];exact hlt):p:=h
theorem QDb{p:Prop}(h:p:=by simpa using hi):p:=h
theorem QDc{p:Prop}(h:p:=by simp[results,Tryz.results188,go_sem,q0,q1]):p:=h
theorem QDd{p:Prop}(h:p:=by simp[results,Tryz.results187,go_sem,q0,q1]):p:=h
theorem QDe{p:Prop}(h:p:=by simp[results,Tryz.results172,go_sem,z0,z1]):p:=h
theorem QDf{p:Prop}(h:p:=by simp[results,Tryz.results171,go_sem,z0,z1]):p:=h
theorem QDg{p:Prop}(h:p:=by simp[results,Tryz.results170,go_sem,z0,z1]):p:=h
theorem QDh{p:Prop}(h:p:=by simp only[XA,Zu];omega):p:=h
theorem QDi{p:Prop}(h:p:=by rw[h.lu];decide):p:=h
theorem QDl{p:Prop}(h:p:=by obtain⟨m,hm⟩:=k2;exact DataW.trod_lt m _ _ _ hm):p:=h
theorem QDm{p:Prop}(h:p:=by obtain⟨m,hm⟩:=k1;exact DataW.trod_lt m _ _ _ hm):p:=h
theorem QDn{p:Prop}(h:p:=by obtain⟨m,hm⟩:=k0;exact DataW.trod_lt m _ _ _ hm):p:=h
theorem QDo{p:Prop}(h:p:=by simpa using he):p:=h
theorem QDp{p:Prop}(h:p:=by rw[ne (by omega) (by omega)];exact h.ur i hi):p:=h
theorem QDr{p:Prop}(h:p:=by rw[HN.out];exact hk):p:=h
theorem QDs{p:Prop}(h:p:=by show w.heap.size+1<_;omega):p:=h
theorem QDt{p:Prop}(h:p:=by simp[results,Tryz.results86,go_sem,TK.done,TK.q,TK.c,y0,y1,y2,y3,y4,z0,z1,z2,z3,z4]):p:=h
theorem QD0{p:Prop}(h:p:=by rw[HF.out];simpa using hg):p:=h
theorem QD1{p:Prop}(h:p:=by rw[HE.out,if_pos HF.out];exact pQ.out.done):p:=h
theorem QD2{p:Prop}(h:p:=by have:=HN.out;omega):p:=h
theorem QD3{p:Prop}(h:p:=by have:=hb5.size;simp at this ⊢;try omega):p:=h
theorem QD4{p:Prop}(h:p:=by unfold place;split<;>omega):p:=h
theorem QD5{p:Prop}(h:p:=by simpa using hk2):p:=h
theorem QD6{p:Prop}(h:p:=by simp[results,Tryz.results11,go_sem]):p:=h
theorem QD7{p:Prop}(h:p:=by simp[Ym,hl0]):p:=h
theorem QD8{p:Prop}(h:p:=by rw[hsz];exact h.step.size):p:=h
theorem QD9{p:Prop}(h:p:=by rw[Vf.out];omega):p:=h
theorem QDw{p:Prop}(h:p:=by rw[IY.out];exact jr _ _ _ _ _ _ _ _):p:=h
theorem QEQ{p:Prop}(h:p:=by simpa using h3):p:=h
theorem QEZ{p:Prop}(h:p:=by simpa using h2):p:=h
theorem QEX{p:Prop}(h:p:=by simpa using h1):p:=h
theorem QEY{p:Prop}(h:p:=by simpa using ho):p:=h
theorem QEJ{p:Prop}(h:p:=by rw[Zl _ _ _ _ (by intro e;exact ha (by simp[Value.ownBlock,e]))];exact hgg):p:=h
theorem QEK{p:Prop}(h:p:=by rw[IY.out];exact lkQ GR Bb Me o8z UN):p:=h
theorem QEU{p:Prop}(h:p:=by rw[HVE.out];exact hlt):p:=h
theorem QEV{p:Prop}(h:p:=by rw[HN.out]at hj;omega):p:=h
theorem QEW{p:Prop}(h:p:=by rw[HN.out];exact hcap):p:=h
theorem QEq{p:Prop}(h:p:=by rw[<-Vf.out];exact hj):p:=h
theorem QEz{p:Prop}(h:p:=by rw[Zi];omega):p:=h
theorem QEx{p:Prop}(h:p:=by unfold Xp at h h';omega):p:=h
theorem QEy{p:Prop}(h:p:=by rw[if_neg (by omega),if_neg (by omega),if_neg a,if_neg b,if_pos h2];rfl):p:=h
theorem QEj{p:Prop}(h:p:=by cases h):p:=h
theorem QEk{p:Prop}(h:p:=by rw[Vf.out];exact hkl):p:=h
theorem QEu{p:Prop}(h:p:=by simp at h):p:=h
theorem QEv{p:Prop}(h:p:=by simp[Utf8.valid];omega):p:=h
theorem QEA{p:Prop}(h:p:=by cases he):p:=h
theorem QEB{p:Prop}(h:p:=by simpa using hf):p:=h
theorem QEC{p:Prop}(h:p:=by simp only[Zu];omega):p:=h
theorem QED{p:Prop}(h:p:=by rw[ui.out];exact hC):p:=h
theorem QEE{p:Prop}(h:p:=by rw[size_madeCells,Nat.mul_one]):p:=h
theorem QEF{p:Prop}(h:p:=by have:=hb1.size;omega):p:=h
theorem QEG{p:Prop}(h:p:=by simp at hu;subst hu;exact⟨rfl,rfl⟩):p:=h
theorem QEH{p:Prop}(h:p:=by rw[hsc];exact Zf h.step.size hsz):p:=h
theorem QEI{p:Prop}(h:p:=by have:=HSZ.out;omega):p:=h
theorem QEL{p:Prop}(h:p:=by dsimp only[SS.Js];split<;>omega):p:=h
theorem QEM{p:Prop}(h:p:=by simpa using hh):p:=h
theorem QEN{p:Prop}(h:p:=by rw[if_neg (by omega),if_neg (by omega),if_neg a,if_pos b];rfl):p:=h
theorem QEO{p:Prop}(h:p:=by rw[Zi,HN.out];omega):p:=h
theorem QEP{p:Prop}(h:p:=by rw[HE.out,VJ.qM];exact qV.done):p:=h
theorem QER{p:Prop}(h:p:=by rcases h.2 with⟨h8,_⟩|⟨g,cap,cur,h8,_⟩<;>simp_all[Value.ownBlock]):p:=h
theorem QES{p:Prop}(h:p:=by simp[results,Tryz.results97,go_sem,y0,y1,y2,y3,y4,y5,X7]):p:=h
theorem QET{p:Prop}(h:p:=by simpa using hE):p:=h
theorem QEa{p:Prop}(h:p:=by simpa using h4):p:=h
theorem QEb{p:Prop}(h:p:=by have:=H0.out;simpa using this):p:=h
theorem QEc{p:Prop}(h:p:=by first|omega|(simp only;omega)):p:=h
theorem QEd{p:Prop}(h:p:=by simpa using hown):p:=h
theorem QEe{p:Prop}(h:p:=by simp[results,Tryz.results86,go_sem,TK.wrong,TK.q,TK.c]):p:=h
theorem QEf{p:Prop}(h:p:=by rw[xO JM.out];exact h2.done):p:=h
theorem QEg{p:Prop}(h:p:=by rw[xN JM.out];exact h3.done):p:=h
theorem QEh{p:Prop}(h:p:=by rw[hb1]):p:=h
theorem QEi{p:Prop}(h:p:=by rw[<-hy,Xk,Zi,HN.out];omega):p:=h
theorem QEl{p:Prop}(h:p:=by rw[HL.out];omega):p:=h
theorem QEm{p:Prop}(h:p:=by unfold Md oz;constructor<;>rw[if_pos (by simp;omega)]):p:=h
theorem QEn{p:Prop}(h:p:=by have:=hub h;omega):p:=h
theorem QEo{p:Prop}(h:p:=by simp[results,Tryz.results130,go_sem,y0,y1,z0,z1]):p:=h
theorem QEp{p:Prop}(h:p:=by rw[if_neg (by omega),if_neg (by omega),if_pos a];rfl):p:=h
theorem QEr{p:Prop}(h:p:=by rw[h.md];omega):p:=h
theorem QEs{p:Prop}(h:p:=by simp[Value.ownBlock]at hk):p:=h
theorem QEt{p:Prop}(h:p:=by show _<(w.alloc _).heap.size;rw[Zu];exact ZF _):p:=h
theorem QE0{p:Prop}(h:p:=by rw[hq];exact hpe):p:=h
theorem QE1{p:Prop}(h:p:=by simp[h.1]):p:=h
theorem QE2{p:Prop}(h:p:=by simp[TK.done]):p:=h
theorem QE3{p:Prop}(h:p:=by rw[hz2];omega):p:=h
theorem QE4{p:Prop}(h:p:=by rw[ho];decide):p:=h
theorem QE5{p:Prop}(h:p:=by rw[hb.cell hP];exact h.1):p:=h
theorem QE6{p:Prop}(h:p:=by have:=cZ.out;rw[hC2]at this;simpa using this.symm):p:=h
theorem QE7{p:Prop}(h:p:=by have:=HO.out.get.1;rw[YU,HL.out]at this;omega):p:=h
theorem QE8{p:Prop}(h:p:=by have:=HC1.out;rw[KR]at this;simpa using this.symm):p:=h
theorem QE9{p:Prop}(h:p:=by simpa using hp):p:=h
theorem QEw{p:Prop}(h:p:=by intro e;exact ha (by simp[Value.ownBlock,e])):p:=h
theorem QFQ{p:Prop}(h:p:=by have:=h.p1;have:=h.p0;dsimp only[SS.leave];omega):p:=h
theorem QFZ{p:Prop}(h:p:=by rw[hq];exact hp):p:=h
theorem QFX{p:Prop}(h:p:=by rw[hb.cell hB];exact h2):p:=h
theorem QFY{p:Prop}(h:p:=by rw[hb.cell hB];exact h1):p:=h
theorem QFJ{p:Prop}(h:p:=by rw[hS0];exact {hI with}):p:=h
theorem QFK{p:Prop}(h:p:=by rw[VY HLR.out];omega):p:=h
theorem QFU{p:Prop}(h:p:=by rw[HN.out];exact hov):p:=h
theorem QFV{p:Prop}(h:p:=by have:=HI.out.tl;omega):p:=h
theorem QGB{p:Prop}(h:p:=by
 go_wp2;go_meet;exact⟨rfl,rfl,rfl⟩):p:=h
theorem QF4{p:Prop}(h:p:=by
 go_region_held3 (fun w'=>w'.cell? ⟨P,0,none⟩=some (.slice I.a I.n I.c)/\w'.cell? ⟨P,29,none⟩=some (.int .i64 0)/\w'.cell? ⟨w.heap.size,0,none⟩=some (.pointer (some ⟨P,0,none⟩))) (first|exact⟨c0,YI,e0⟩|assumption) (fail)
 all_goals
  exact QGB):p:=h
theorem QF5{p:Prop}(h:p:=by
 go_region_held3 (fun w'=>w'.cell? ⟨P,0,none⟩=some (.slice I.a I.n I.c)/\w'.cell? ⟨P,29,none⟩=some (.int .i64 1)/\w'.cell? ⟨w.heap.size,0,none⟩=some (.pointer (some ⟨P,0,none⟩))) (first|exact⟨c0,YI,e0⟩|assumption) (fail)
 all_goals
  exact QGB):p:=h
theorem QF2{p:Prop}(h:p:=by
 go_region_held3 (fun w'=>w'.cell? ⟨P,0,none⟩=some (.slice I.a I.n I.c)/\w'.cell? ⟨P,29,none⟩=some (.int .i64 (N:Int))/\w'.cell? ⟨w.heap.size,0,none⟩=some (.pointer (some ⟨P,0,none⟩))) (first|exact⟨c0,YI,e0⟩|assumption) (fail)
 all_goals
  exact QGB):p:=h
theorem QFW{p:Prop}(h:p:=by
 have h3:ct=0\/ct=1\/2<=ct:=QQ;rcases h3 with rfl|rfl|h3
 ·obtain rfl:N=1:=by have:=UO.out;omega
  exact QF4
 ·obtain rfl:N=1:=by have:=UO.out;omega
  exact QF5
 ·obtain rfl:ct=(N:Int):=by have:=UO.out;omega
  exact QF2):p:=h
theorem QGI{p:Prop}(h:p:=by
 exact⟨[.slice yz yU yV,.slice KW KU KV],⟨_,2,2,rfl,rfl,QZ,QZ,JD _ [.slice yz yU yV,.slice KW KU KV] _,fun h=>QEu⟩,(Lists.one (fD.below (ZR _ _))).append (Lists.one (fC.below (ZR _ _))),hbW.alloc hbW.size _⟩):p:=h
theorem QGJ{p:Prop}(h:p:=by
 change∃us,Vs (qR.alloc (.cells #[.slice yz yU yV,.slice KW KU KV] 22)) (.slice (some ⟨qR.heap.size,0,none⟩) 2 2) us/\Lists (qR.alloc (.cells #[.slice yz yU yV,.slice KW KU KV] 22)) us _/\Below V4.heap.size V4 (qR.alloc (.cells #[.slice yz yU yV,.slice KW KU KV] 22));exact QGI):p:=h
theorem QF7{p:Prop}(h:p:=by
 have fC:=xR.sl;go_wp2;go_meet;exact QGJ):p:=h
theorem QF0{p:Prop}(h:p:=by
 have hbW:Below V4.heap.size V4 qR:=KF xg;have fD:=Te.sl.below b11;exact QF7):p:=h
theorem QFt{p:Prop}(h:p:=by
 refine Y0 QX ?_ _;exact QF0):p:=h
theorem QFn{p:Prop}(h:p:=by
 refine hK.out _ _ QI (fun hHeld=>?_);clear hK K;exact QFt):p:=h
theorem QFg{p:Prop}(h:p:=by
 refine ZT (o:=⟨some 22,.assign (.tmp 157),_,_,_,_⟩) rfl (fun K hK=>?_) ?_
 ·go_simp
  exact QFn
 exact Zh):p:=h
theorem QFb{p:Prop}(h:p:=by
 refine hK.out _ _ (Yt ‹_› Yj Yy (ZR _ _) (D9 ‹_›)) (fun hHeld=>?_);clear hK K;refine Zn (rs:=[27]) QX QJ ?_;exact QFg):p:=h
theorem QFL{p:Prop}(h:p:=by
 refine ZT (o:=⟨some 157,_,_,_,_,_⟩) rfl (fun K hK=>?_) ?_
 ·go_simp
  exact QFb
 exact Zh):p:=h
theorem QFu{p:Prop}(h:p:=by
 refine hK.out _ _ QI (fun hHeld=>?_);clear hK K;refine Zn (rs:=[26]) QX QJ ?_;exact QFL):p:=h
theorem QFM{p:Prop}(h:p:=by
 refine ZT (o:=⟨some 156,.load 22 (.tmp 155),_,_,_,_⟩) rfl (fun K hK=>?_) ?_
 ·go_simp
  exact QFu
 exact Zh):p:=h
theorem QFF{p:Prop}(h:p:=by
 refine Zn (rs:=[25]) QX QJ ?_;exact QFM):p:=h
theorem QFc{p:Prop}(h:p:=by
 refine Ze 24 ⟨some 155,.fieldAddr 175 (.tmp 154) 2,_,_,_,_⟩ ((.pointer (some ⟨J8,2,none⟩))) ?_;simp only[Act.put,Zj,Zk,Zv];exact QFF):p:=h
theorem QFS{p:Prop}(h:p:=by
 refine Ze 23 ⟨some 154,.nilCheck (.tmp 153),_,_,_,_⟩ ((.pointer (some ⟨J8,0,none⟩))) ?_;simp only[Act.put,Zj,Zk,Zv];exact QFc):p:=h
theorem QFO{p:Prop}(h:p:=by
 refine hK.out _ _ xg (fun hHeld=>?_);clear hK K;exact QFS):p:=h
theorem QFA{p:Prop}(h:p:=by
 obtain⟨rz,uP,xR,RS,QQV⟩:=Gb;obtain⟨-,-,k11,-⟩:=uP.three;obtain⟨KW,KU,KV,rfl⟩:=xR.form;dsimp only;exact QFO):p:=h
theorem QFk{p:Prop}(h:p:=by
 have l11:=(YZ Wq (p:=⟨J4,2,none⟩) kv).trans l10;have b11:=b10.trans (Wq.mono vC);exact QFA):p:=h
theorem QFz{p:Prop}(h:p:=by
 refine(Jz J8 J8 4 (some ⟨bb1,Wu,none⟩) n cb hi pb B _ _ ((uu.out.JX (KF ‹_›)).imp (fun q hq=>Zc hq Jl)) Lr QQ hpb hn QZ).mono ?_;rintro e qR ⟨rfl,Gb,Wq,QQX⟩;have xg:=Yt ‹_› Yj Yy Wq Jl;exact QFk):p:=h
theorem QFq{p:Prop}(h:p:=by
 clear hK K;refine Zn (rs:=[22]) QX QJ ?_;refine ZT (o:=⟨some 153,_,_,_,_,_⟩) rfl (fun K hK=>?_) ?_
 ·go_simp
  exact QFz
 exact Zh):p:=h
theorem QFx{p:Prop}(h:p:=by
 rintro e qR ⟨rfl,Gb,Wq,QQX⟩;have xg:=Yt ‹_› Yj Yy Wq Jl;exact QFk):p:=h
theorem QHg{p:Prop}(h:p:=by
 have:=CS w;unfold C5.v at this;exact this):p:=h
theorem QGO{p:Prop}(h:p:=by
 go_wp2_with (go_at_call 152;refine(HS.out _).mono ?_;rintro e w8 ⟨rfl,XH⟩;have Wi:=Zy XH;clear XH)
 go_meet;exact⟨rfl,⟨us,Qu⟩,(Yk.of Wi.out).trans (Yk.of (ZR _ _))⟩):p:=h
theorem QGC{p:Prop}(h:p:=by
 have iC:(none:Option (Int×Int)).isSome=false:=rfl;have HK:=Zy hk;clear hk;exact QGO):p:=h
theorem QGt{p:Prop}(h:p:=by
 exact⟨rfl,⟨_,QN⟩,((Yk.of Wi.out).trans (Yk.setCells c'.cells)).trans (Yk.of (ZR _ _))⟩):p:=h
theorem QGq{p:Prop}(h:p:=by
 go_wp2_with (go_at_call 152;refine(HS.out _).mono ?_;rintro e w8 ⟨rfl,XH⟩;have JJ:=HX.out.to XH;have g29:=JJ.YI;have g30:=JJ.UE;have g31:=JJ.c31;have g32:=JJ.c32;have g33:=JJ.Ko;have k29:=JJ.free 29;have k30:=JJ.free 30;have k31:=JJ.free 31;have k32:=JJ.free 32;have k33:=JJ.free 33;have OV:=JJ.lt;have Rt:=Zy JJ;have Wi:=Zy XH;clear XH JJ)
 go_meet;exact QGt):p:=h
theorem QFp{p:Prop}(h:p:=by
 rcases hk:xW c.d with _|pq
 ·rw[hk]at HS
  exact QGC
 ·rw[hk]at HS
  have iC:(some pq:Option (Int×Int)).isSome=true:=rfl;clear hk;exact QGq):p:=h
theorem QFm{p:Prop}(h:p:=by
 have JM:=Zy hno;clear CS hS e1 hc' hno h0;exact QFp):p:=h
theorem QFT{p:Prop}(h:p:=by
 have hS:∀(w:World),Calls Tryz.prog 152 #[.agg #[.int .i64 c.a,.int .i64 c.b,.int .i64 c.c,.int .i64 c.d,.int .i64 c.e]] w (fun e w'=>e=.returned (.tuple #[.agg #[.int .i64 c'.a,.int .i64 c'.b,.int .i64 c'.c,.int .i64 c'.d,.int .i64 c'.e],.bool (xW c.d).isSome])/\Below w.heap.size w w'):=fun w=>by
  exact QHg
 have hno:xW c.d=none->c'=c:=fun hn=>QDC
 have HS:=Zy hS;have yK:=Zy e1;exact QFm):p:=h
theorem QFN{p:Prop}(h:p:=by
 obtain⟨c',hc'⟩:∃c',Sd c=c':=⟨_,rfl⟩;rw[hc']at CS e1;exact QFT):p:=h
theorem QHi{p:Prop}(h:p:=by
 go_meet;exact⟨rfl,⟨us,Qd⟩,Yk.refl _ _⟩):p:=h
theorem QFy{p:Prop}(h:p:=by
 clear HI;by_cases h0:c.c=0
 ·have z0:(c.c==0)=true:=by simpa using h0
  have CS:=fun w=>UD c w
  have e1:=j5 h0;exact QFN
 ·have n0:(c.c==0)=false:=by simpa using h0
  have e1:=j6 h0;have yK:=Zy e1;clear h0 e1;go_wp2;exact QHi):p:=h
theorem QFj{p:Prop}(h:p:=by
 have xg:=Yt ‹_› Yj Yy Wq Jl;exact QFk):p:=h
theorem QFv{p:Prop}(h:p:=by
 have b11:=b10.trans (Wq.mono vC);exact QFA):p:=h
theorem QFB{p:Prop}(h:p:=by
 clear hK K;refine Zn (rs:=[26]) QX QJ ?_;exact QFL):p:=h
theorem QFE{p:Prop}(h:p:=by
 obtain⟨KW,KU,KV,rfl⟩:=xR.form;dsimp only;exact QFO):p:=h
theorem QFC{p:Prop}(h:p:=by
 obtain⟨-,-,k11,-⟩:=uP.three;exact QFE):p:=h
theorem QFD{p:Prop}(h:p:=by
 refine Zn (rs:=[26]) QX QJ ?_;exact QFL):p:=h
theorem QFG{p:Prop}(h:p:=by
 have CS:=fun w=>UD c w
 have e1:=j5 h0;exact QFN):p:=h
theorem QFH{p:Prop}(h:p:=by
 have e1:=j5 h0;exact QFN):p:=h
theorem QFI{p:Prop}(h:p:=by
 dsimp only;exact QFO):p:=h
theorem QFP{p:Prop}(h:p:=by
 clear hK K;exact QFS):p:=h
theorem QFR{p:Prop}(h:p:=by
 rw[hc']at CS e1;exact QFT):p:=h
theorem QFa{p:Prop}(h:p:=by
 simp only[Act.put,Zj,Zk,Zv];exact QFc):p:=h
theorem QFf{p:Prop}(h:p:=by
 refine Zn (rs:=[27]) QX QJ ?_;exact QFg):p:=h
theorem QFd{p:Prop}(h:p:=by
 clear hK K;exact QFf):p:=h
theorem QFe{p:Prop}(h:p:=by
 simp only[Act.put,Zj,Zk,Zv];exact QFF):p:=h
theorem QFl{p:Prop}(h:p:=by
 have yK:=Zy e1;exact QFm):p:=h
theorem QFh{p:Prop}(h:p:=by
 have hno:xW c.d=none->c'=c:=fun hn=>QDC
 have HS:=Zy hS;exact QFl):p:=h
theorem QFi{p:Prop}(h:p:=by
 have HS:=Zy hS;exact QFl):p:=h
theorem QFo{p:Prop}(h:p:=by
 clear CS hS e1 hc' hno h0;exact QFp):p:=h
theorem QFr{p:Prop}(h:p:=by
 have hX:=Ul.start w f r o s 0;obtain⟨b1,b2,b3,b4,b5⟩:=Jb hp;have HP:=Zy hp;clear hp;rw[Um hu,hk,if_neg QQ,if_pos QQ];have u1:32<=key:=Qe;have u2:(key==127)=false:=QO;clear hu;have HK:=Zy hk;clear hk;go_enter Tryz.func62,Tryz.ntmps62
 go_wp2_with (first|(go_at_call 85;refine(YG _ _ _ _ _ _).mono ?_;rintro e w9 ⟨rfl,hb⟩;rw[HP.out];have hX1:=hX.below hb;obtain⟨c0,c1,c2,c3,c4⟩:=hX1.p.five;obtain⟨g0,g1,g2,g3,g4⟩:=hX1.p.Z7;obtain⟨k0,k1,k2,k3,k4⟩:=hX1.q.five;obtain⟨l0,l1,l2,l3,l4⟩:=hX1.q.Z7;obtain⟨m0,m1,m2,m3,m4⟩:=hX1.c.five;obtain⟨n0,n1,n2,n3,n4⟩:=hX1.c.Z7)|(go_at_call 87;refine(Ye _ _ _ _ _ _ _).mono ?_;rintro e w8 ⟨rfl,hb2⟩;rw[HK.out];have hX2:=hX1.below hb2;obtain⟨c0,c1,c2,c3,c4⟩:=hX2.p.five;obtain⟨g0,g1,g2,g3,g4⟩:=hX2.p.Z7;obtain⟨k0,k1,k2,k3,k4⟩:=hX2.q.five;obtain⟨l0,l1,l2,l3,l4⟩:=hX2.q.Z7;obtain⟨m0,m1,m2,m3,m4⟩:=hX2.c.five;obtain⟨n0,n1,n2,n3,n4⟩:=hX2.c.Z7))
 obtain⟨hq,hc,hbel⟩:=(hX2.NL (f':=f) (r':=r) (o':=o) (s':=s) (pK:=key) 4 (.int .i64 key) rfl).done (.int .i64 (f)) (.int .i64 (r)) (.int .i64 (o)) (.int .i64 (s)) (.int .i64 (key)) (.int .i64 (0)) (.int .i64 (0)) (.int .i64 (0)) (.int .i64 (0)) (.int .i64 (0)) rfl;obtain⟨y0,y1,y2,y3,y4⟩:=hq.five;obtain⟨z0,z1,z2,z3,z4⟩:=hc.five;exact ZC (v:=.tuple #[(TK.more f r o s key).q,(TK.more f r o s key).c,.int .i64 1,.int .i64 0]) Qk rfl (XF.of hbel)):p:=h
theorem QFs{p:Prop}(h:p:=by
 clear hK K;exact QFt):p:=h
theorem QF1{p:Prop}(h:p:=by
 have fD:=Te.sl.below b11;exact QF7):p:=h
theorem QGY{p:Prop}(h:p:=by
 first|exact(hacc.setCell (p:=⟨w.heap.size+1,0,none⟩) (ZA _) _).setCell (p:=⟨w.heap.size+1,1,none⟩) (ZA _) _|exact Zo _ _ _):p:=h
theorem QF3{p:Prop}(h:p:=by
 go_enter Tryz.func176,Tryz.ntmps176
 go_wp2;rw[HR.out];have hG:=(hP.set 0 (.int .i64 (0))).set 1 (.bool false);obtain⟨q0,q1,-,-⟩:=Za.two hG;refine ZC (v:=.tuple #[.agg #[.int .i64 (0),.bool false],.int .i64 5]) QK rfl ⟨rfl,?_⟩;exact QGY):p:=h
theorem QF6{p:Prop}(h:p:=by
 first|exact(Z0.setCell (p:=⟨w.heap.size+1,0,none⟩) (ZA _) _).setCell (p:=⟨w.heap.size+1,1,none⟩) (ZA _) _|exact Zo _ _ _):p:=h
theorem QLi{p:Prop}(h:p:=by
 obtain⟨vsA,g1,g2⟩:=hA.ls;refine .inl ⟨k,⟨by show k<ls.length;rw[Vf.out];exact hkl,hfit,QDR,fun j hj hs hb=>?_⟩,.slice ra rn rc,.slice ta tn tc,.slice a7 n7 c7,Ht,rfl,⟨⟨vsA,g1.imp (fun k hk=>QQ),g2.imp (fun _ _ h=>h.imp (fun k hk=>QQ))⟩,rfl,rfl,hA.XU.imp (fun k hk=>QQ),hO.uX.imp (fun k hk=>QQ),rfl⟩,hBn.imp (fun k hk=>QQ),((((((BS.setCell (p:=⟨w.heap.size+1,0,none⟩) (ZA _) _).setCell (p:=⟨w.heap.size+1,1,none⟩) (ZA _) _).setCell (p:=⟨w.heap.size+1,2,none⟩) (ZA _) _).setCell (p:=⟨w.heap.size+1,3,none⟩) (ZA _) _).setCell (p:=⟨w.heap.size+1,4,none⟩) (ZA _) _).setCell (p:=⟨w.heap.size+1,5,none⟩) (ZA _) _)⟩;exact JM.out j QEq hs QDE):p:=h
theorem QF8{p:Prop}(h:p:=by
 have VJ:=(uq.other (a:=⟨w6.heap.size,4,none⟩) Qb (.slice a7 n7 c7)).other (a:=⟨w6.heap.size,5,none⟩) Qb (.bool false);have hG:=((((((VJ.set 0 (.slice ra rn rc)).set 1 (.int .i64 M)).set 2 (.int .i64 (k:Int))).set 3 (.slice ta tn tc)).set 4 (.slice a7 n7 c7)).set 5 (.bool false));simp only[Zj,Zk,Zv]at hG;obtain⟨y0,y1,y2,y3,y4,y5⟩:=hG.six;obtain⟨nvs,hnv⟩:∃v,Ht=v:=⟨_,rfl⟩;refine ZC (v:=.tuple #[.agg (X7 (.slice ra rn rc) M (k:Int) (.slice ta tn tc) (.slice a7 n7 c7) false),Ht,.int .i64 0]) Qx rfl ?_;have hk0:Below w6.heap.size w6 w7:=ZE (ZR w6 _) QJ WC;have uN:=oO.out.below hk0;have hwb:=oh.out.below hk0;have hst:=fun(w':World) (hc:∀p v,(w5.heap.size<=p.block/\p.block<w6.heap.size)->w7.cell? p=some v->w'.cell? p=some v)=>And.intro (uN.keep hc) (hwb.keep hc)
 have hown:=xL.mono (base':=w.heap.size+2) QY;have hk:=fun(p:Addr) (v:Value) (hp:w5.heap.size<=p.block/\p.block<w6.heap.size) (hc:w7.cell? p=some v)=>
  Zr (Zr (Zr (Zr (Zr (Zr (Zr (Zr hc
   (a:=⟨w6.heap.size,4,none⟩) (u:=.slice a7 n7 c7) Ql)
   (a:=⟨w6.heap.size,5,none⟩) (u:=.bool false) Ql)
   (a:=⟨w.heap.size+1,0,none⟩) (u:=.slice ra rn rc) QU)
   (a:=⟨w.heap.size+1,1,none⟩) (u:=.int .i64 M) QU)
   (a:=⟨w.heap.size+1,2,none⟩) (u:=.int .i64 (k:Int)) QU)
   (a:=⟨w.heap.size+1,3,none⟩) (u:=.slice ta tn tc) QU)
   (a:=⟨w.heap.size+1,4,none⟩) (u:=.slice a7 n7 c7) QU)
   (a:=⟨w.heap.size+1,5,none⟩) (u:=.bool false) QU
 obtain⟨hA,hBn⟩:=hst _ hk;have hO:=((((((((xL.setCell (a:=⟨w6.heap.size,4,none⟩) QJ (.slice a7 n7 c7)).setCell (a:=⟨w6.heap.size,5,none⟩) QJ (.bool false)).mono (base':=w.heap.size+2) QY).setCell (a:=⟨w.heap.size+1,0,none⟩) (ZF _) (.slice ra rn rc)).setCell (a:=⟨w.heap.size+1,1,none⟩) (ZF _) (.int .i64 M)).setCell (a:=⟨w.heap.size+1,2,none⟩) (ZF _) (.int .i64 (k:Int))).setCell (a:=⟨w.heap.size+1,3,none⟩) (ZF _) (.slice ta tn tc)).setCell (a:=⟨w.heap.size+1,4,none⟩) (ZF _) (.slice a7 n7 c7)).setCell (a:=⟨w.heap.size+1,5,none⟩) (ZF _) (.bool false);have Ba:Below w.heap.size w w7:=ZE (ZE Yw QQ hb6) QQ hk0;have BS:=(Ba.setCell (p:=⟨w6.heap.size,4,none⟩) Qc (.slice a7 n7 c7)).setCell (p:=⟨w6.heap.size,5,none⟩) Qc (.bool false);exact QLi):p:=h
theorem QF9{p:Prop}(h:p:=by
 have VJ:=(uq.other (a:=⟨w6.heap.size,4,none⟩) Qb (.slice a7 n7 c7)).other (a:=⟨w6.heap.size,5,none⟩) Qb (.bool true);have hG:=((((((VJ.set 0 (.slice ra rn rc)).set 1 (.int .i64 M)).set 2 (.int .i64 (k:Int))).set 3 (.slice ta tn tc)).set 4 (.slice a7 n7 c7)).set 5 (.bool true));simp only[Zj,Zk,Zv]at hG;obtain⟨y0,y1,y2,y3,y4,y5⟩:=hG.six;obtain⟨nvs,hnv⟩:∃v,Ht=v:=⟨_,rfl⟩;refine ZC (v:=.tuple #[.agg (X7 (.slice ra rn rc) M (k:Int) (.slice ta tn tc) (.slice a7 n7 c7) true),Ht,.int .i64 0]) Qx rfl ?_;have hk0:Below w6.heap.size w6 w7:=ZE (ZR w6 _) QJ WC;have uN:=oO.out.below hk0;have hwb:=oh.out.below hk0;have hst:=fun(w':World) (hc:∀p v,(w5.heap.size<=p.block/\p.block<w6.heap.size)->w7.cell? p=some v->w'.cell? p=some v)=>And.intro (uN.keep hc) (hwb.keep hc)
 have hown:=xL.mono (base':=w.heap.size+2) QY;have hk:=fun(p:Addr) (v:Value) (hp:w5.heap.size<=p.block/\p.block<w6.heap.size) (hc:w7.cell? p=some v)=>
  Zr (Zr (Zr (Zr (Zr (Zr (Zr (Zr hc
   (a:=⟨w6.heap.size,4,none⟩) (u:=.slice a7 n7 c7) Ql)
   (a:=⟨w6.heap.size,5,none⟩) (u:=.bool true) Ql)
   (a:=⟨w.heap.size+1,0,none⟩) (u:=.slice ra rn rc) QU)
   (a:=⟨w.heap.size+1,1,none⟩) (u:=.int .i64 M) QU)
   (a:=⟨w.heap.size+1,2,none⟩) (u:=.int .i64 (k:Int)) QU)
   (a:=⟨w.heap.size+1,3,none⟩) (u:=.slice ta tn tc) QU)
   (a:=⟨w.heap.size+1,4,none⟩) (u:=.slice a7 n7 c7) QU)
   (a:=⟨w.heap.size+1,5,none⟩) (u:=.bool true) QU
 obtain⟨hA,hBn⟩:=hst _ hk;have hO:=((((((((xL.setCell (a:=⟨w6.heap.size,4,none⟩) QJ (.slice a7 n7 c7)).setCell (a:=⟨w6.heap.size,5,none⟩) QJ (.bool true)).mono (base':=w.heap.size+2) QY).setCell (a:=⟨w.heap.size+1,0,none⟩) (ZF _) (.slice ra rn rc)).setCell (a:=⟨w.heap.size+1,1,none⟩) (ZF _) (.int .i64 M)).setCell (a:=⟨w.heap.size+1,2,none⟩) (ZF _) (.int .i64 (k:Int))).setCell (a:=⟨w.heap.size+1,3,none⟩) (ZF _) (.slice ta tn tc)).setCell (a:=⟨w.heap.size+1,4,none⟩) (ZF _) (.slice a7 n7 c7)).setCell (a:=⟨w.heap.size+1,5,none⟩) (ZF _) (.bool true);have Ba:Below w.heap.size w w7:=ZE (ZE Yw QQ hb6) QQ hk0;have BS:=(Ba.setCell (p:=⟨w6.heap.size,4,none⟩) Qc (.slice a7 n7 c7)).setCell (p:=⟨w6.heap.size,5,none⟩) Qc (.bool true);exact QLi):p:=h
theorem QFw{p:Prop}(h:p:=by
 go_enter Tryz.func62,Tryz.ntmps62
 go_wp2_with (first|(go_at_call 85;refine(YG _ _ _ _ _ _).mono ?_;rintro e w9 ⟨rfl,hb⟩;rw[HP.out];have hX1:=hX.below hb;obtain⟨c0,c1,c2,c3,c4⟩:=hX1.p.five;obtain⟨g0,g1,g2,g3,g4⟩:=hX1.p.Z7;obtain⟨k0,k1,k2,k3,k4⟩:=hX1.q.five;obtain⟨l0,l1,l2,l3,l4⟩:=hX1.q.Z7;obtain⟨m0,m1,m2,m3,m4⟩:=hX1.c.five;obtain⟨n0,n1,n2,n3,n4⟩:=hX1.c.Z7)|(go_at_call 87;refine(Ye _ _ _ _ _ _ _).mono ?_;rintro e w8 ⟨rfl,hb2⟩;rw[HK.out];have hX2:=hX1.below hb2;obtain⟨c0,c1,c2,c3,c4⟩:=hX2.p.five;obtain⟨g0,g1,g2,g3,g4⟩:=hX2.p.Z7;obtain⟨k0,k1,k2,k3,k4⟩:=hX2.q.five;obtain⟨l0,l1,l2,l3,l4⟩:=hX2.q.Z7;obtain⟨m0,m1,m2,m3,m4⟩:=hX2.c.five;obtain⟨n0,n1,n2,n3,n4⟩:=hX2.c.Z7)|(go_at_call 89;refine(UZ _ _ _ _ _ _ _ _ b1 b2 b3 b4).mono ?_;rintro e w7 ⟨rfl,hb3⟩;have xf:=hX2.below hb3;obtain⟨c0,c1,c2,c3,c4⟩:=xf.p.five;obtain⟨g0,g1,g2,g3,g4⟩:=xf.p.Z7;obtain⟨k0,k1,k2,k3,k4⟩:=xf.q.five;obtain⟨l0,l1,l2,l3,l4⟩:=xf.q.Z7;obtain⟨m0,m1,m2,m3,m4⟩:=xf.c.five;obtain⟨n0,n1,n2,n3,n4⟩:=xf.c.Z7))
 obtain⟨hq,hc,hbel⟩:=xf.done (.int .i64 (0)) (.int .i64 (0)) (.int .i64 (0)) (.int .i64 (0)) (.int .i64 (0)) (.int .i64 (Wo f s)) (.int .i64 (r)) (.int .i64 (o)) (.int .i64 (key)) (.int .i64 (0)) rfl;obtain⟨y0,y1,y2,y3,y4⟩:=hq.five;obtain⟨z0,z1,z2,z3,z4⟩:=hc.five;exact ZC (v:=.tuple #[(TK.done f r o s key 0).q,(TK.done f r o s key 0).c,.int .i64 2,.int .i64 0]) QCs rfl (XF.of hbel)):p:=h
theorem QGQ{p:Prop}(h:p:=by
 go_wp2;go_meet;exact QGJ):p:=h
theorem QGZ{p:Prop}(h:p:=by
 go_meet;exact QGJ):p:=h
theorem QGX{p:Prop}(h:p:=by
 have iC:(some pq:Option (Int×Int)).isSome=true:=rfl;clear hk;exact QGq):p:=h
theorem QGK{p:Prop}(h:p:=by
 go_wp2
 go_quiet (fail)
 go_wp2;go_meet;refine⟨true,rfl,⟨Bool.noConfusion,fun h=>?_⟩,_,rfl⟩;rw[xK.out]at h;simp[Vz]at h;omega):p:=h
theorem QGU{p:Prop}(h:p:=by
 obtain⟨c0,c1,c2,c3,c4⟩:=hC.five;obtain⟨p0,p1,-,-⟩:=hF.two;obtain⟨m0,m1,m2,q0,q1,q2⟩:=hM.three;obtain⟨d0,d1,d2,g0,g1,g2⟩:=hR.three;obtain⟨l0,l1,t0,t1⟩:=hL.two;have HF:=Zy (show _/\_/\_ from⟨((((hR.set 0 (.int .i64 mk)).set 1 (.int .i64 mn)).set 2 (.int .i64 mg)).other (a:=⟨w.heap.size+3,0,none⟩) (show w.heap.size+2≠w.heap.size+3 from QQ) (.int .i64 fk)).other (a:=⟨w.heap.size+3,1,none⟩) (show w.heap.size+2≠w.heap.size+3 from QQ) (.int .i64 fa),((((hL.other (a:=⟨w.heap.size+2,0,none⟩) (show w.heap.size+3≠w.heap.size+2 from QQ) (.int .i64 mk)).other (a:=⟨w.heap.size+2,1,none⟩) (show w.heap.size+3≠w.heap.size+2 from QQ) (.int .i64 mn)).other (a:=⟨w.heap.size+2,2,none⟩) (show w.heap.size+3≠w.heap.size+2 from QQ) (.int .i64 mg)).set 0 (.int .i64 fk)).set 1 (.int .i64 fa),(((((hb.setCell (p:=⟨w.heap.size+2,0,none⟩) QV (.int .i64 mk)).setCell (p:=⟨w.heap.size+2,1,none⟩) QV (.int .i64 mn)).setCell (p:=⟨w.heap.size+2,2,none⟩) QV (.int .i64 mg)).setCell (p:=⟨w.heap.size+3,0,none⟩) QD (.int .i64 fk)).setCell (p:=⟨w.heap.size+3,1,none⟩) QD (.int .i64 fa))⟩);have EP:=Zy (show _/\_/\_ from⟨((((hR.other (a:=⟨w.heap.size+3,0,none⟩) (show w.heap.size+2≠w.heap.size+3 from QQ) (.int .i64 fk)).other (a:=⟨w.heap.size+3,1,none⟩) (show w.heap.size+2≠w.heap.size+3 from QQ) (.int .i64 fa)).set 0 (.int .i64 mk)).set 1 (.int .i64 mn)).set 2 (.int .i64 mg),((((hL.set 0 (.int .i64 fk)).set 1 (.int .i64 fa)).other (a:=⟨w.heap.size+2,0,none⟩) (show w.heap.size+3≠w.heap.size+2 from QQ) (.int .i64 mk)).other (a:=⟨w.heap.size+2,1,none⟩) (show w.heap.size+3≠w.heap.size+2 from QQ) (.int .i64 mn)).other (a:=⟨w.heap.size+2,2,none⟩) (show w.heap.size+3≠w.heap.size+2 from QQ) (.int .i64 mg),(((((hb.setCell (p:=⟨w.heap.size+3,0,none⟩) QD (.int .i64 fk)).setCell (p:=⟨w.heap.size+3,1,none⟩) QD (.int .i64 fa)).setCell (p:=⟨w.heap.size+2,0,none⟩) QV (.int .i64 mk)).setCell (p:=⟨w.heap.size+2,1,none⟩) QV (.int .i64 mn)).setCell (p:=⟨w.heap.size+2,2,none⟩) QV (.int .i64 mg))⟩);have HQ:=Zy hQ;clear hF hC hM hR hL hb hQ
 conv=>arg 2;whnf
 go_region
 all_goals
  first
   | exact HQ.out _ _ _ ⟨HF.out.1,HF.out.2.1,HF.out.2.2.drew⟩
   | exact HQ.out _ _ _ ⟨EP.out.1,EP.out.2.1,EP.out.2.2.drew⟩):p:=h
theorem QGV{p:Prop}(h:p:=by
 clear hk;exact QGq):p:=h
theorem QGW{p:Prop}(h:p:=by
 clear hin hno;go_wp2;have hG:=((((((hRr.set 0 (.slice none 0 0)).set 1 (.int .i64 0)).set 2 (.int .i64 0)).set 3 (.slice none 0 0)).set 4 (.slice none 0 0)).set 5 (.bool false));simp only[Zj,Zk,Zv]at hG;obtain⟨y0,y1,y2,y3,y4,y5⟩:=hG.six;refine ZC (v:=.tuple #[.agg (X7 (.slice none 0 0) 0 0 (.slice none 0 0) (.slice none 0 0) false),.slice none 0 0,.int .i64 (5)]) Qx rfl ?_;exact .inr ⟨HN.out,_,_,_,_,rfl,xS _ _,Yn.nil _ _,((((((JL.setCell (p:=⟨w.heap.size+1,0,none⟩) (ZA _) _).setCell (p:=⟨w.heap.size+1,1,none⟩) (ZA _) _).setCell (p:=⟨w.heap.size+1,2,none⟩) (ZA _) _).setCell (p:=⟨w.heap.size+1,3,none⟩) (ZA _) _).setCell (p:=⟨w.heap.size+1,4,none⟩) (ZA _) _).setCell (p:=⟨w.heap.size+1,5,none⟩) (ZA _) _)⟩):p:=h
theorem QIv{p:Prop}(h:p:=by
 exact⟨[.slice bG bE bF],⟨_,1,1,rfl,rfl,QZ,QZ,JD _ [.slice bG bE bF] _,fun h=>QEu⟩,Lists.one (hSl.below (ZR _ _)),hbW.alloc hbW.size _⟩):p:=h
theorem QG6{p:Prop}(h:p:=by
 change∃us,Vs (w6.alloc (.cells #[.slice bG bE bF] 22)) (.slice (some ⟨w6.heap.size,0,none⟩) 1 1) us/\Lists (w6.alloc (.cells #[.slice bG bE bF] 22)) us _/\Below V2.heap.size V2 (w6.alloc (.cells #[.slice bG bE bF] 22));exact QIv):p:=h
theorem QGf{p:Prop}(h:p:=by
 have hbW:Below V2.heap.size V2 w6:=KF ‹_›;have hSl:=ho6.sl;go_wp2;go_meet;exact QG6):p:=h
theorem QGz{p:Prop}(h:p:=by
 have hS0:(V2.drew.cell? ⟨B3,0,none⟩=some (.slice (some ⟨bb1,Wu,none⟩) n cb)/\V2.drew.cell? ⟨B2,1,none⟩=some (.int .i64 (pa:Int))/\V2.drew.cell? ⟨B3,1,none⟩=some (.int .i64 (pb:Int))/\Below V2.heap.size V2 V2.drew):=⟨q0,q1,q2,(ZH _ _).drew⟩
 go_region_law (first|(go_simp;go_at_call 101;((with_reducible refine(J9 B2 B3 (some ⟨bb1,Wu,none⟩) n cb pa _ (ps0 ‹_›) (ps1 ‹_›)).mono ?_);rintro e w4 ⟨J4,rfl,Ex,hJ4,hb4⟩;have Jt:V2.heap.size<=J4:=Zf (D9 ‹_›) Ex;have oH:=Yt ‹_› Yj Yy hb4 (D9 ‹_›);have hT:=oH;obtain⟨r0,r1,r2,-⟩:=hT))|(go_simp;go_at_call 105;((with_reducible refine(Kq J4 J4 0 (some ⟨bb1,Wu,none⟩) n cb pa P B _ _ ((uu.out.JX (KF ‹_›)).imp (fun q hq=>Zc hq Jt)) hJ4 QQ QQ hn QZ).mono ?_);rintro e w5 ⟨rfl,hJ5,hb5,Ta⟩;have hS5:=Yt ‹_› Yj Yy hb5 Jt;have hT:=hS5;obtain⟨r0,r1,r2,-⟩:=hT))|(go_simp;go_at_call 103;((with_reducible refine(Jz J4 J4 2 (some ⟨bb1,Wu,none⟩) n cb P pb B _ _ ((uu.out.JX (KF ‹_›)).imp (fun q hq=>Zc hq Jt)) hJ5 QQ hpb hn QZ).mono ?_);rintro e w6 ⟨rfl,hJ6,hb6,hz6⟩;have hS6:=Yt ‹_› Yj Yy hb6 Jt;have hT:=hS6;obtain⟨r0,r1,r2,-⟩:=hT;obtain⟨rW,qU,ho6,QVS,hl6⟩:=hJ6;obtain⟨-,-,k6,-⟩:=qU.three;obtain⟨bG,bE,bF,rfl⟩:=ho6.form)))
 all_goals
  exact QGf):p:=h
theorem QHA{p:Prop}(h:p:=by
 have h3:=Own.kept (w:=w5) HOS.out (w':=w5.drew) (ZH _ _).drew;exact⟨h2.row,h3.kept Jp,h2.pat⟩):p:=h
theorem QGg{p:Prop}(h:p:=by
 have h1:=ug.kept (w:=w5) bU.out (w':=w5.drew) (ZH _ _).drew;have h2:=h1.kept Jp;exact QHA):p:=h
theorem QGx{p:Prop}(h:p:=by
 go_wp2;have hG:=((((((Ga.set 0 (.slice ra rn rc)).set 1 (.int .i64 M)).set 2 (.int .i64 (wh:Int))).set 3 (.slice a4 n4 xA)).set 4 (.slice ua un uc)).set 5 (.bool O));simp only[Zj,Zk,Zv]at hG;obtain⟨y0,y1,y2,y3,y4,y5⟩:=hG.six;have jK:Below w.heap.size w w9:=ZE Uc.drew QDD Jp;have hO9:ug (w.heap.size+2) w9 (.slice ra rn rc) (.slice a4 n4 xA) (.slice ua un uc) ls xs pat:=by
  exact QGg
 have OG:=(((((hO9.setCell (a:=⟨w.heap.size+1,0,none⟩) (ZF _) (.slice ra rn rc)).setCell (a:=⟨w.heap.size+1,1,none⟩) (ZF _) (.int .i64 M)).setCell (a:=⟨w.heap.size+1,2,none⟩) (ZF _) (.int .i64 (wh:Int))).setCell (a:=⟨w.heap.size+1,3,none⟩) (ZF _) (.slice a4 n4 xA)).setCell (a:=⟨w.heap.size+1,4,none⟩) (ZF _) (.slice ua un uc)).setCell (a:=⟨w.heap.size+1,5,none⟩) (ZF _) (.bool O);have A8:=A9.mono (base':=w.heap.size+2) QDv;have zk:=(((((A8.setCell (a:=⟨w.heap.size+1,0,none⟩) (ZF _) (.slice ra rn rc)).setCell (a:=⟨w.heap.size+1,1,none⟩) (ZF _) (.int .i64 M)).setCell (a:=⟨w.heap.size+1,2,none⟩) (ZF _) (.int .i64 (wh:Int))).setCell (a:=⟨w.heap.size+1,3,none⟩) (ZF _) (.slice a4 n4 xA)).setCell (a:=⟨w.heap.size+1,4,none⟩) (ZF _) (.slice ua un uc)).setCell (a:=⟨w.heap.size+1,5,none⟩) (ZF _) (.bool O);refine ZC (v:=.tuple #[.agg (X7 (.slice ra rn rc) M (wh:Int) (.slice a4 n4 xA) (.slice ua un uc) O),.slice a9 n9 c9,.int .i64 0]) ZU rfl ?_;rw[HTH.out];exact⟨.slice ra rn rc,(.slice a4 n4 xA),.slice ua un uc,.slice a9 n9 c9,rfl,(OG.hip _ _ _).imp (fun k hk=>QQ),zk.uX.imp (fun k hk=>QQ),(((((jK.setCell (ZA _) _).setCell (ZA _) _).setCell (ZA _) _).setCell (ZA _) _).setCell (ZA _) _).setCell (ZA _) _⟩):p:=h
theorem QGy{p:Prop}(h:p:=by
 go_wp2;have hG:=((((((Ga.set 0 (.slice ra rn rc)).set 1 (.int .i64 M)).set 2 (.int .i64 (wh:Int))).set 3 (.slice ta tn tc)).set 4 (.slice ua un uc)).set 5 (.bool O));simp only[Zj,Zk,Zv]at hG;obtain⟨y0,y1,y2,y3,y4,y5⟩:=hG.six;have jK:Below w.heap.size w w9:=ZE Uc.drew QDD Jp;have hO9:ug (w.heap.size+2) w9 (.slice ra rn rc) (.slice ta tn tc) (.slice ua un uc) ls XU pat:=by
  exact QGg
 have OG:=(((((hO9.setCell (a:=⟨w.heap.size+1,0,none⟩) (ZF _) (.slice ra rn rc)).setCell (a:=⟨w.heap.size+1,1,none⟩) (ZF _) (.int .i64 M)).setCell (a:=⟨w.heap.size+1,2,none⟩) (ZF _) (.int .i64 (wh:Int))).setCell (a:=⟨w.heap.size+1,3,none⟩) (ZF _) (.slice ta tn tc)).setCell (a:=⟨w.heap.size+1,4,none⟩) (ZF _) (.slice ua un uc)).setCell (a:=⟨w.heap.size+1,5,none⟩) (ZF _) (.bool O);have A8:=A9.mono (base':=w.heap.size+2) QDv;have zk:=(((((A8.setCell (a:=⟨w.heap.size+1,0,none⟩) (ZF _) (.slice ra rn rc)).setCell (a:=⟨w.heap.size+1,1,none⟩) (ZF _) (.int .i64 M)).setCell (a:=⟨w.heap.size+1,2,none⟩) (ZF _) (.int .i64 (wh:Int))).setCell (a:=⟨w.heap.size+1,3,none⟩) (ZF _) (.slice ta tn tc)).setCell (a:=⟨w.heap.size+1,4,none⟩) (ZF _) (.slice ua un uc)).setCell (a:=⟨w.heap.size+1,5,none⟩) (ZF _) (.bool O);refine ZC (v:=.tuple #[.agg (X7 (.slice ra rn rc) M (wh:Int) (.slice ta tn tc) (.slice ua un uc) O),.slice a9 n9 c9,.int .i64 0]) ZU rfl ?_;rw[HTH.out];exact⟨.slice ra rn rc,(.slice ta tn tc),.slice ua un uc,.slice a9 n9 c9,rfl,(OG.hip _ _ _).imp (fun k hk=>QQ),zk.uX.imp (fun k hk=>QQ),(((((jK.setCell (ZA _) _).setCell (ZA _) _).setCell (ZA _) _).setCell (ZA _) _).setCell (ZA _) _).setCell (ZA _) _⟩):p:=h
theorem QL1{p:Prop}(h:p:=by
 exact⟨_,_,_,_,rfl,(Ms.out.six QQ).imp (fun k hk=>QQ),(Ha.out.six QQ).imp (fun k hk=>QQ),Jd Ji QQ⟩):p:=h
theorem QGj{p:Prop}(h:p:=by
 go_enter Tryz.func94,Tryz.ntmps94
 go_upto_region 1 with fail
 change Code.wp _ _ _ _ ((w.alloc (.cells #[.slice la ln lc,.int .i64 M,.int .i64 W,.slice sa sn sc,.slice pa pn pc,.bool O] 85)).alloc (.cells #[.slice none 0 0,.int .i64 0,.int .i64 0,.slice none 0 0,.slice none 0 0,.bool false] 85));generalize((w.alloc (.cells #[.slice la ln lc,.int .i64 M,.int .i64 W,.slice sa sn sc,.slice pa pn pc,.bool O] 85)).alloc (.cells #[.slice none 0 0,.int .i64 0,.int .i64 0,.slice none 0 0,.slice none 0 0,.bool false] 85))=w1 at *;obtain⟨c0,c1,c2,c3,c4,c5⟩:=hB.six;go_wp2_with ((go_at_call 114);refine(Wv.out _ HR1.out).mono ?_;rintro e w2 ⟨rfl,hb2⟩;rw[HE.out];have hB2:=hB.below hb2 hB.lt;obtain⟨d0,d1,d2,d3,d4,d5⟩:=hB2.six;have hR2:=hR.below hb2 hR.lt;obtain⟨p0,p1,p2,p3,p4,p5⟩:=hR2.six;obtain⟨t0,t1,t2,t3,t4,t5⟩:=hR2.YA;have Z0:=ZE hacc QQ hb2;have hlt2:=hB2.lt;have hz2:=hb2.size;have HR2:=Zy (HR1.out.below hb2);have hx2:=hx.below Z0)
 refine(DT.out _ HR2.out hx2).mono ?_;rintro e w3 ⟨lv3,sv3,pv3,TD,rfl,hp3,vD,hb3⟩;obtain⟨vs3,⟨ra,rn,rc,rfl,-⟩,-⟩:=hp3.ls;obtain⟨ta,tn,tc,rfl⟩:=hp3.XU.form;obtain⟨ua,un,uc,rfl⟩:=hp3.pat.form;have Wx:=hR2.below hb3 hR2.lt;obtain⟨q0,q1,q2,q3,q4,q5⟩:=Wx.six;obtain⟨v0,v1,v2,v3,v4,v5⟩:=Wx.YA;have Ji:=ZE Z0 QQ hb3;have Ms:=Zy hp3;have Ha:=Zy vD;simp only[X7,zP];clear hp3 vD;go_wp2;obtain⟨y0,y1,y2,y3,y4,y5⟩:=(Wx.six' (.slice ra rn rc) (.int .i64 M) (.int .i64 (wh:Int)) (.slice ta tn tc) (.slice ua un uc) (.bool O)).six;refine ZC (v:=.tuple #[.agg (X7 (.slice ra rn rc) M (wh:Int) (.slice ta tn tc) (.slice ua un uc) O),TD,.int .i64 0]) Zz rfl ?_;exact QL1):p:=h
theorem QGk{p:Prop}(h:p:=by
 go_enter Tryz.func95,Tryz.ntmps95
 go_upto_region 1 with fail
 change Code.wp _ _ _ _ ((w.alloc (.cells #[.slice la ln lc,.int .i64 M,.int .i64 W,.slice sa sn sc,.slice pa pn pc,.bool O] 85)).alloc (.cells #[.slice none 0 0,.int .i64 0,.int .i64 0,.slice none 0 0,.slice none 0 0,.bool false] 85));generalize((w.alloc (.cells #[.slice la ln lc,.int .i64 M,.int .i64 W,.slice sa sn sc,.slice pa pn pc,.bool O] 85)).alloc (.cells #[.slice none 0 0,.int .i64 0,.int .i64 0,.slice none 0 0,.slice none 0 0,.bool false] 85))=w1 at *;obtain⟨c0,c1,c2,c3,c4,c5⟩:=hB.six;go_wp2_with ((go_at_call 114);refine(Wv.out _ HR1.out).mono ?_;rintro e w2 ⟨rfl,hb2⟩;rw[HE.out];have hB2:=hB.below hb2 hB.lt;obtain⟨d0,d1,d2,d3,d4,d5⟩:=hB2.six;have hR2:=hR.below hb2 hR.lt;obtain⟨p0,p1,p2,p3,p4,p5⟩:=hR2.six;obtain⟨t0,t1,t2,t3,t4,t5⟩:=hR2.YA;have Z0:=ZE hacc QQ hb2;have hlt2:=hB2.lt;have hz2:=hb2.size;have HR2:=Zy (HR1.out.below hb2);have hx2:=hx.below Z0)
 refine(DT.out _ HR2.out hx2).mono ?_;rintro e w3 ⟨lv3,sv3,pv3,TD,rfl,hp3,vD,hb3⟩;obtain⟨vs3,⟨ra,rn,rc,rfl,-⟩,-⟩:=hp3.ls;obtain⟨ta,tn,tc,rfl⟩:=hp3.XU.form;obtain⟨ua,un,uc,rfl⟩:=hp3.pat.form;have Wx:=hR2.below hb3 hR2.lt;obtain⟨q0,q1,q2,q3,q4,q5⟩:=Wx.six;obtain⟨v0,v1,v2,v3,v4,v5⟩:=Wx.YA;have Ji:=ZE Z0 QQ hb3;have Ms:=Zy hp3;have Ha:=Zy vD;simp only[X7,zP];clear hp3 vD;go_wp2;obtain⟨y0,y1,y2,y3,y4,y5⟩:=(Wx.six' (.slice ra rn rc) (.int .i64 M) (.int .i64 (wh:Int)) (.slice ta tn tc) (.slice ua un uc) (.bool O)).six;refine ZC (v:=.tuple #[.agg (X7 (.slice ra rn rc) M (wh:Int) (.slice ta tn tc) (.slice ua un uc) O),TD,.int .i64 0]) Zq rfl ?_;exact QL1):p:=h
theorem QGu{p:Prop}(h:p:=by
 go_enter Tryz.func96,Tryz.ntmps96
 go_upto_region 1 with fail
 change Code.wp _ _ _ _ ((w.alloc (.cells #[.slice la ln lc,.int .i64 M,.int .i64 W,.slice sa sn sc,.slice pa pn pc,.bool O] 85)).alloc (.cells #[.slice none 0 0,.int .i64 0,.int .i64 0,.slice none 0 0,.slice none 0 0,.bool false] 85));generalize((w.alloc (.cells #[.slice la ln lc,.int .i64 M,.int .i64 W,.slice sa sn sc,.slice pa pn pc,.bool O] 85)).alloc (.cells #[.slice none 0 0,.int .i64 0,.int .i64 0,.slice none 0 0,.slice none 0 0,.bool false] 85))=w1 at *;obtain⟨c0,c1,c2,c3,c4,c5⟩:=hB.six;go_wp2_with ((go_at_call 114);refine(Wv.out _ HR1.out).mono ?_;rintro e w2 ⟨rfl,hb2⟩;rw[HE.out];have hB2:=hB.below hb2 hB.lt;obtain⟨d0,d1,d2,d3,d4,d5⟩:=hB2.six;have hR2:=hR.below hb2 hR.lt;obtain⟨p0,p1,p2,p3,p4,p5⟩:=hR2.six;obtain⟨t0,t1,t2,t3,t4,t5⟩:=hR2.YA;have Z0:=ZE hacc QQ hb2;have hlt2:=hB2.lt;have hz2:=hb2.size;have HR2:=Zy (HR1.out.below hb2);have hx2:=hx.below Z0)
 refine(DT.out _ HR2.out hx2).mono ?_;rintro e w3 ⟨lv3,sv3,pv3,TD,rfl,hp3,vD,hb3⟩;obtain⟨vs3,⟨ra,rn,rc,rfl,-⟩,-⟩:=hp3.ls;obtain⟨ta,tn,tc,rfl⟩:=hp3.XU.form;obtain⟨ua,un,uc,rfl⟩:=hp3.pat.form;have Wx:=hR2.below hb3 hR2.lt;obtain⟨q0,q1,q2,q3,q4,q5⟩:=Wx.six;obtain⟨v0,v1,v2,v3,v4,v5⟩:=Wx.YA;have Ji:=ZE Z0 QQ hb3;have Ms:=Zy hp3;have Ha:=Zy vD;simp only[X7,zP];clear hp3 vD;go_wp2;obtain⟨y0,y1,y2,y3,y4,y5⟩:=(Wx.six' (.slice ra rn rc) (.int .i64 M) (.int .i64 (0:Int)) (.slice ta tn tc) (.slice ua un uc) (.bool O)).six;refine ZC (v:=.tuple #[.agg (X7 (.slice ra rn rc) M (0:Int) (.slice ta tn tc) (.slice ua un uc) O),TD,.int .i64 0]) Qi rfl ?_;exact QL1):p:=h
theorem QHd{p:Prop}(h:p:=by
 refine⟨k+1,Qy,QQ,?_,_,rfl⟩;rw[nM.out];unfold Jc;rw[if_pos QDP,<-HX1.out];exact HSK.out.drewN m):p:=h
theorem QHJ{p:Prop}(h:p:=by
 go_roundw
 case rel=>
  exact QHd
 case measure=>simp[intOf];omega):p:=h
theorem QHm{p:Prop}(h:p:=by
 refine⟨k+1,Qy,QQ,?_,_,rfl⟩;rw[nM.out];unfold Jc;rw[if_neg QDP];exact HBK.out):p:=h
theorem QHq{p:Prop}(h:p:=by
 go_roundw
 case rel=>
  exact QHm
 case measure=>simp[intOf];omega):p:=h
theorem QGv{p:Prop}(h:p:=by
 have e1:=hc1 k QEU;obtain⟨xa,xn,xc,x1,x2,x3,x4,x5,x6⟩:=hls.sl k QDK;have HSK:=Zy (hls.sl k QDK);rw[x1]at e1;have HX2:=Zy x2;have HX1:=Zy x1;have hnew:KX BB (X.take (k+1))=Jc (KX BB (X.take k)) (rx X k):=by rw[Wp QDK,CY]
 have nM:=Zy hnew;clear hc1 x1 x2 x3 x4 x5 x6 hnew;by_cases hbt:xn<nb3
 ·have i1:(xn:Int)<(nb3:Int):=by omega
  go_wp2;exact QHJ
 ·have i1:¬(xn:Int)<(nb3:Int):=by omega
  go_wp2;exact QHq):p:=h
theorem QGA{p:Prop}(h:p:=by
 rcases rr with _|⟨y,t⟩
 ·simp at h
 ·exact⟨y,t,rfl⟩):p:=h
theorem QLs{p:Prop}(h:p:=by
 refine Zn (rs:=[42]) QX QJ ?_;refine ZT (o:=⟨none,_,_,_,_,_⟩) rfl (fun K hK=>?_) Zh;rw[if_pos QDu];refine V7 _ _ rfl R rfl rs rfl GR.Et (by rw[IY.out];rfl) QDw ?_;simp only[Act.put,Zj,Zk,Zv];refine hK.out _ _ (zU hB1 hS1 (below_setCells Bb _ 0 UN)) (fun hHeld=>?_);clear hK K;refine Y0 QX ?_ _;go_wp2;go_meet;exact⟨_,_,_,rfl,QEK⟩):p:=h
theorem QGD{p:Prop}(h:p:=by
 refine hK.out _ _ (zU hB1 hS1 UN) (fun hHeld=>?_);clear hK K;refine Zn (rs:=[29]) QX QJ ?_;refine ZT (o:=⟨some 37,_,_,_,_,_⟩) rfl (fun K hK=>?_) Zh;go_simp;refine(HCL.out _ UN).mono ?_;rintro e w8 ⟨v8,rfl,o8,XH⟩;obtain⟨a8,n8,k8,rfl⟩:=o8.form;have o8z:=o8.mono UN.size;replace Me:=Me.kept XH;replace GR:=GR.Yc XH;replace UN:=UN.trans (XH.mono UN.size);dsimp only;refine hK.out _ _ (zU hB1 hS1 UN) (fun hHeld=>?_);clear hK K;refine Ze 35 ⟨some 43,_,_,_,_,_⟩ ((.agg #[.slice a8 n8 k8,.int .i64 S.rat])) ?_;simp only[Act.put,Zj,Zk,Zv];obtain⟨rs,hrs⟩:∃rs,rs=zK (.slice a5 n5 k5) S n43 (.slice a8 n8 k8):=⟨_,rfl⟩;have IY:=Zy hrs;clear hrs;refine wpAnyH_take (i:=40) (oi:=⟨some 48,_,_,_,_,_⟩) (v:=(.agg (Xo rs))) rfl QX QX QX (fun _ _ _ h=>h) (Or.inl ⟨QDu,fun w hSw=>Q8⟩) QI ?_;simp only[Act.put,Zj,Zk,Zv];exact QLs):p:=h
theorem QGE{p:Prop}(h:p:=by
 clear hK K;refine Zn (rs:=[20]) QX QJ ?_;refine ZT (o:=⟨some 27,_,_,_,_,_⟩) rfl (fun K hK=>?_) Zh;go_simp;refine(qi _ _ _ _ _).mono ?_;rintro e w6 ⟨rfl,rfl⟩;rw[HVS.out];refine hK.out _ _ QI (fun hHeld=>?_);clear hK K;refine Ze 21 ⟨some 6,.move (.tmp 27),_,_,_,_⟩ ((.tuple #[.int .i64 (XT S.pos S.off S.width),.int .i64 0])) ?_;simp only[Act.put,Zj,Zk,Zv];refine Ze 22 ⟨some 28,.extract (.tmp 6) 0,_,_,_,_⟩ ((.int .i64 (XT S.pos S.off S.width))) ?_;simp only[Act.put,Zj,Zk,Zv];refine Ze 23 ⟨some 29,.extract (.tmp 6) 1,_,_,_,_⟩ ((.int .i64 0)) ?_;simp only[Act.put,Zj,Zk,Zv];refine Ze 24 ⟨some 30,.nilCheck (.tmp 7),_,_,_,_⟩ ((.pointer (some ⟨B,0,none⟩))) ?_;simp only[Act.put,Zj,Zk,Zv];refine Ze 25 ⟨some 31,.fieldAddr 91 (.tmp 30) 13,_,_,_,_⟩ ((.pointer (some ⟨B,51,none⟩))) ?_;simp only[Act.put,Zj,Zk,Zv];refine Zn (rs:=[26]) QX QJ ?_;refine ZT (o:=⟨none,_,_,_,_,_⟩) rfl (fun K hK=>?_) Zh;go_simp;refine hK.out _ _ ⟨x0s,x1s,QXc⟩ (fun hHeld=>?_);clear hK K;refine Y0 QX ?_ _;go_wp2;go_meet;exact⟨rfl,F,_,hA2.store 51 (.int .i64 (XT S.pos S.off S.width)) {hA2.hf.d with off:=rfl}⟩):p:=h
theorem QGF{p:Prop}(h:p:=by
 have PD:=Zy zy;clear hfit;go_wp2_with ((go_at_call 115);refine(nO.out _ hq x5).mono ?_;rintro e w5 ⟨rfl,hb5⟩;rw[zy])
 go_roundw
 case rel=>exact⟨_,rfl,QQ,fun j hj hs hb=>by
  rcases XL j k with h|h|h
  ·exact JM.out j hj hs QQ
  ·subst h;exact PD.out
  ·exact JM.out j hj hs QQ,ZE hbr QQ hb5⟩
 case measure=>simp[intOf];omega):p:=h
theorem QL7{p:Prop}(h:p:=by
 obtain⟨y0,y1,y2,y3,y4⟩:=hq.five;obtain⟨z0,z1,z2,z3,z4⟩:=hc.five;exact ZC (v:=.tuple #[(TK.wrong).q,(TK.wrong).c,.int .i64 3,.int .i64 0]) Qf rfl (XF.of hbel)):p:=h
theorem QGG{p:Prop}(h:p:=by
 go_enter Tryz.func62,Tryz.ntmps62
 go_wp2_with (first|(go_at_call 85;refine(YG _ _ _ _ _ _).mono ?_;rintro e w9 ⟨rfl,hb⟩;rw[HP.out];have hX1:=hX.below hb;obtain⟨c0,c1,c2,c3,c4⟩:=hX1.p.five;obtain⟨g0,g1,g2,g3,g4⟩:=hX1.p.Z7;obtain⟨k0,k1,k2,k3,k4⟩:=hX1.q.five;obtain⟨l0,l1,l2,l3,l4⟩:=hX1.q.Z7;obtain⟨m0,m1,m2,m3,m4⟩:=hX1.c.five;obtain⟨n0,n1,n2,n3,n4⟩:=hX1.c.Z7)|(go_at_call 87;refine(Ye _ _ _ _ _ _ _).mono ?_;rintro e w8 ⟨rfl,hb2⟩;rw[HK.out];have hX2:=hX1.below hb2;obtain⟨c0,c1,c2,c3,c4⟩:=hX2.p.five;obtain⟨g0,g1,g2,g3,g4⟩:=hX2.p.Z7;obtain⟨k0,k1,k2,k3,k4⟩:=hX2.q.five;obtain⟨l0,l1,l2,l3,l4⟩:=hX2.q.Z7;obtain⟨m0,m1,m2,m3,m4⟩:=hX2.c.five;obtain⟨n0,n1,n2,n3,n4⟩:=hX2.c.Z7))
 obtain⟨hq,hc,hbel⟩:=hX2.done (.int .i64 (0)) (.int .i64 (0)) (.int .i64 (0)) (.int .i64 (0)) (.int .i64 (0)) (.int .i64 (0)) (.int .i64 (0)) (.int .i64 (0)) (.int .i64 (0)) (.int .i64 (0)) rfl;exact QL7):p:=h
theorem QGH{p:Prop}(h:p:=by
 have HK:=Zy hk;clear hk;exact QGO):p:=h
theorem QGL{p:Prop}(h:p:=by
 go_meet;exact⟨rfl,rfl,rfl⟩):p:=h
theorem QGM{p:Prop}(h:p:=by
 clear hk;exact QGO):p:=h
theorem QGN{p:Prop}(h:p:=by
 rintro e w2 ⟨x,y,er,rfl,hP,hb2⟩;have HP:=Zy hP;have hA2:=hA.below hb2 hA.lt;have hbb:=ZE hb hb.size hb2;clear hA hb hb2 hP;obtain⟨d0,d1,f0,f1⟩:=hA2.two;obtain⟨y0,y1,-,-⟩:=Za.two ((hA2.set 0 (.int .i64 x)).set 1 (.int .i64 y));go_wp2
 go_quiet (fail)
 go_wp2;go_ret3
 exact⟨x,y,er,rfl,HP.out,below_drewN ((hbb.setCell (p:=⟨w.heap.size,0,none⟩) (ZB _) _).setCell (p:=⟨w.heap.size,1,none⟩) (ZB _) _) _⟩):p:=h
theorem QGP{p:Prop}(h:p:=by
 go_quiet (fail)
 go_wp2;go_ret3
 exact⟨rfl,below_drewN ((Yw.setCell (p:=⟨w2.heap.size+1,0,none⟩) QC _).setCell (p:=⟨w2.heap.size+1,1,none⟩) QC _) _⟩):p:=h
theorem QGR{p:Prop}(h:p:=by
 go_wp2_with (first|(go_at_call 85;refine(YG _ _ _ _ _ _).mono ?_;rintro e w9 ⟨rfl,hb⟩;rw[HP.out];have hX1:=hX.below hb;obtain⟨c0,c1,c2,c3,c4⟩:=hX1.p.five;obtain⟨g0,g1,g2,g3,g4⟩:=hX1.p.Z7;obtain⟨k0,k1,k2,k3,k4⟩:=hX1.q.five;obtain⟨l0,l1,l2,l3,l4⟩:=hX1.q.Z7;obtain⟨m0,m1,m2,m3,m4⟩:=hX1.c.five;obtain⟨n0,n1,n2,n3,n4⟩:=hX1.c.Z7))
 obtain⟨hq,hc,hbel⟩:=hX1.done (.int .i64 (0)) (.int .i64 (0)) (.int .i64 (0)) (.int .i64 (0)) (.int .i64 (0)) (.int .i64 (0)) (.int .i64 (0)) (.int .i64 (0)) (.int .i64 (0)) (.int .i64 (0)) rfl;exact QL7):p:=h
theorem QGS{p:Prop}(h:p:=by
 have HA2:=Zy hA2;clear hA2 o2 hb2;go_wp2_with fail
 refine HB.out.mono ?_;rintro e w3 ⟨rfl,hv⟩;go_wp2
 go_end0
 obtain⟨F3,f3,hA3,-,-⟩:=HA2.out.call hv;exact⟨rfl,QDy⟩):p:=h
theorem QGT{p:Prop}(h:p:=by
 go_enter Tryz.func86,Tryz.ntmps86
 go_wp2_with (go_at_call 89;refine(UZ _ _ _ _ _ _ _ _ h1 h2 h3 h4).mono ?_;rintro e w9 ⟨rfl,hb⟩;have lU:=hX.below hb;obtain⟨k0,k1,k2,k3,k4⟩:=lU.q.five;obtain⟨l0,l1,l2,l3,l4⟩:=lU.q.Z7;obtain⟨m0,m1,m2,m3,m4⟩:=lU.c.five;obtain⟨n0,n1,n2,n3,n4⟩:=lU.c.Z7)
 obtain⟨hq,hc,hbel⟩:=lU.done (.int .i64 0) (.int .i64 0) (.int .i64 0) (.int .i64 0) (.int .i64 0) (.int .i64 (Wo f s)) (.int .i64 r) (.int .i64 o) (.int .i64 wt) (.int .i64 key) rfl;obtain⟨y0,y1,y2,y3,y4⟩:=hq.five;obtain⟨z0,z1,z2,z3,z4⟩:=hc.five;exact ZC (v:=.tuple #[(TK.done f r o s wt key).q,(TK.done f r o s wt key).c,.int .i64 2,.int .i64 0]) QDt rfl (XF.of hbel)):p:=h
theorem QGa{p:Prop}(h:p:=by
 exact⟨_,_,_,_,rfl,xS _ _,Yn.nil _ _,((((((Z0.setCell (p:=⟨w.heap.size+1,0,none⟩) (ZA _) _).setCell (p:=⟨w.heap.size+1,1,none⟩) (ZA _) _).setCell (p:=⟨w.heap.size+1,2,none⟩) (ZA _) _).setCell (p:=⟨w.heap.size+1,3,none⟩) (ZA _) _).setCell (p:=⟨w.heap.size+1,4,none⟩) (ZA _) _).setCell (p:=⟨w.heap.size+1,5,none⟩) (ZA _) _)⟩):p:=h
theorem QGb{p:Prop}(h:p:=by
 have HA2:=Zy hA2;have HB2:=Zy hbd;clear hA2 o2 hb2 hH e37 e38 e39 e40 e41 e42 hbd;go_upto_region 20 with fail
 go_region_law (first|(go_simp;go_at_call 97;refine HU.out.mono ?_;rintro e w8 ⟨h8,l8,E8,VJ,lv,sv,pv,nv,rfl,T9,zx,XH⟩;obtain⟨a8,n8,k8,rfl⟩:=zx.form;have qf:=HA2.out.below (Zp.call XH HB2.out))|(go_simp;go_at_call 79;refine Calls.mono (WH _ _ B S lv sv pv h8 a8 n8 k8 l8 E8 w8 ⟨_,qf.hf⟩ (T9.lt.imp fun k hk=>Fx.new k hk) (zx.lt.imp fun k hk=>Fx.new k hk) (zx.len VJ.small) (Zf (Zf (Xn _ _) (Xn _ _)) HN.out)) ?_;rintro e w9 ⟨rfl,iG⟩))
 all_goals
  go_wp2
  go_end0
  obtain⟨F9,f9,qV,-,-⟩:=qf.call iG;exact⟨rfl,by rw[HE.out,Rh VJ];exact qV.done⟩):p:=h
theorem QHY{p:Prop}(h:p:=by
 exact⟨HF.out.1,HF.out.2.1,HF.out.2.2.1,HF.out.2.2.2.1,HF.out.2.2.2.2.1,HF.out.2.2.2.2.2.drew⟩):p:=h
theorem QGc{p:Prop}(h:p:=by
 clear hF hC hM hR hL hb
 go_region
 all_goals
  go_wp2;go_meet;exact QHY):p:=h
theorem QGd{p:Prop}(h:p:=by
 rcases h.2 with⟨rfl,_⟩|⟨g,cap,cur,rfl,hb',hgg,rest⟩
 ·simp[Value.ownBlock]
 ·intro hv
  simp only[Value.ownBlock,ZL]at hv;subst hv;rw[show w.heap[B]? =_ from hB]at hgg;simp at hgg;exact he hgg.2.symm):p:=h
theorem QGe{p:Prop}(h:p:=by
 go_wp2;go_meet;exact⟨rfl,rfl⟩):p:=h
theorem QGh{p:Prop}(h:p:=by
 have e1:=j6 h0;have yK:=Zy e1;clear h0 e1;go_wp2;exact QHi):p:=h
theorem QIj{p:Prop}(h:p:=by
 rcases XZ.1 hj with h|rfl
 ·exact JM.out j h
 ·exact HNF.out):p:=h
theorem QGi{p:Prop}(h:p:=by
 clear hq;go_wp2;go_roundw
 case rel=>
  refine⟨i+1,Qy,by rw[Rs.out],QQ,?_,QC4⟩;intro j hj;exact QIj
 case measure=>simp[intOf];omega):p:=h
theorem QGl{p:Prop}(h:p:=by
 go_meet;exact QGt):p:=h
theorem QGm{p:Prop}(h:p:=by
 have hSl:=ho6.sl;go_wp2;go_meet;exact QG6):p:=h
theorem QIY{p:Prop}(h:p:=by
 rw[Z6 (by rw[bX.out];exact ZB _),<-HBB.out,<-jk,HX.out]at h1;rw[yN,HPA.out,List.map_append];exact h1):p:=h
theorem QHx{p:Prop}(h:p:=by
 refine⟨P+1,j+1,Qy,Zy (by have:=HP.out;omega),by have:=HP.out;omega,QQ,?_,below_drewN QY1 m⟩;have h1:=HBK.out;exact QIY):p:=h
theorem QGn{p:Prop}(h:p:=by
 go_wp2;go_roundw
 case rel=>
  exact QHx
 case measure=>simp[intOf];omega):p:=h
theorem QGo{p:Prop}(h:p:=by
 go_enter Tryz.func149,Tryz.ntmps149
 go_wp2_with fail
 refine h1.mono ?_;rintro e w1 ⟨rfl,rfl⟩;go_wp2_with fail
 refine h2.mono ?_;rintro e w1 ⟨rfl,rfl⟩;go_wp2_with fail
 refine h3.mono ?_;rintro e w1 ⟨rfl,rfl⟩;go_wp2_with fail
 refine h4.mono ?_;rintro e w1 ⟨rfl,rfl⟩;go_wp2;go_ret;exact⟨_,_,rfl,Dn base w hbs _ _ _ l r c _ _ rfl HL.out HR.out (by rw[HS.out]) (by rw[HT.out,i2]),rfl,ZR _ _⟩):p:=h
theorem QGp{p:Prop}(h:p:=by
 go_wp2;go_meet;exact QG6):p:=h
theorem QGr{p:Prop}(h:p:=by
 go_wp2;go_meet;exact QHY):p:=h
theorem QGs{p:Prop}(h:p:=by
 have yK:=Zy e1;clear h0 e1;go_wp2;exact QHi):p:=h
theorem QG0{p:Prop}(h:p:=by
 subst he;exact⟨_,rfl,_,_,_,[],_,[],hW',trodAll_mk1 (shut_bool Tryz.underlying4 _),(trodAll_cons_mk (Below.trod laidOut QX (of_decide_eq_true QX) k0 Xw lt0) (trodAll_cons_mk (Below.trod laidOut QX (of_decide_eq_true QX) k1 Xw lt1) (trodAll_cons_mk (Below.trod laidOut QX (of_decide_eq_true QX) k2 Xw lt2) (trodAll_cons_mk (Below.trod laidOut QX (of_decide_eq_true QX) k3 Xw lt3) trodAll_mk0)))),rfl,Xw.frame _,fun h=>QEj⟩):p:=h
theorem QG1{p:Prop}(h:p:=by
 go_meet;exact QG6):p:=h
theorem QG2{p:Prop}(h:p:=by
 rintro e w2 ⟨rfl,hb2⟩;have hb3:=ZE hbel (Xh hB2.lt) hb2;have hB3:=hB2.below hb2 hB2.lt;go_wp2;go_roundw
 case rel=>exact⟨j+1,Qy,QQ,rfl,hB3,hb3⟩
 case measure=>simp[intOf];omega):p:=h
theorem QLV{p:Prop}(h:p:=by
 rw[HF.out,HT.out];refine⟨?_,ZE hacc QJ hb2⟩;simp
 try omega):p:=h
theorem QHj{p:Prop}(h:p:=by
 go_wp2_with ((go_at_call 161);refine(WM a n c l k key count arg true _ hI HN.out hn2 ⟨k1,k2⟩).mono ?_;rintro e w2 ⟨rfl,hb2⟩;rw[HA.out,HB.out,HE.out])
 all_goals
  go_ret3
  exact QLV):p:=h
theorem QG8{p:Prop}(h:p:=by
 have HF:=Zy hF;have HT:=Zy hT;clear hF hT;go_enter Tryz.func162,Tryz.ntmps162
 exact QHj):p:=h
theorem QG3{p:Prop}(h:p:=by
 cases B
 all_goals
  exact QG8):p:=h
theorem QG4{p:Prop}(h:p:=by
 go_meet;exact QHY):p:=h
theorem QG5{p:Prop}(h:p:=by
 go_wp2;exact QHJ):p:=h
theorem QG7{p:Prop}(h:p:=by
 go_enter Tryz.func84,Tryz.ntmps84
 go_wp2;refine ZC (v:=.tuple #[.agg #[.slice none 0 0,.int .i64 0],.int .i64 1]) QA rfl ?_;exact Y3.of HK.out (fun h=>absurd h HU.out) (.inl rfl) rfl QQ hb):p:=h
theorem QG9{p:Prop}(h:p:=by
 go_enter Tryz.func114,Tryz.ntmps114
 go_wp2_with ((go_at_call 117);refine(HC.out _ QKZ.out).mono ?_;rintro e w2 ⟨rfl,hb2⟩;rw[HE.out])
 go_ret;exact⟨XE HR.out.symm,ZE hacc QJ hb2⟩):p:=h
theorem QGw{p:Prop}(h:p:=by
 have h2:=h1.store (S':={S with pos:=max 0 (S.pos-1),mode:=0}) 2 (.int .i64 0) {h1.hf.d with mode:=rfl};obtain⟨F',h3⟩:=h2.vJ JM.out;rw[X8 QZ,X8 QZ,H47.out]at h3;exact⟨rfl,QEg⟩):p:=h
theorem QHQ{p:Prop}(h:p:=by
 go_wp2_with ((with_reducible show wpList _ _ _ (⟨none,Op.store _ _ _,_,_,_,_⟩::_) _ _);go_loud (refine ze rfl _ _ rfl (w.heap.size+4) 0 rfl YW rfl YW _ hZr (ZB 33) rfl xM ?_;have kz:=Wl hZr Jv HBr.out QQ YW rfl;generalize wr.setCells (w.heap.size+4) 0 YW=w9 at kz ⊢))
 rw[nT.out];exact ZC (J7 Tryz.results127 rfl (Vr kz.1 Jv)) rfl ⟨YW,rfl,Ae _ _ _,kz.2⟩):p:=h
theorem QHZ{p:Prop}(h:p:=by
 go_wp2;exact QHq):p:=h
theorem QHX{p:Prop}(h:p:=by
 refine⟨h.1,?_⟩;rcases h.2 with hn|⟨g,cap,cur,rfl,hb',rest⟩
 ·exact .inl hn
 ·exact .inr ⟨g,cap,cur,rfl,QQ,rest⟩):p:=h
theorem QHK{p:Prop}(h:p:=by
 have h2:=h1.kept Jp;exact QHA):p:=h
theorem QHC{p:Prop}(h:p:=by
 have hadd:(⟨b,o',none⟩:Addr).add j=⟨b,o'+j,none⟩:=QF;rw[hadd,hc j hlt];rw[List.getElem?_map,Z8 hlt]at hj;rw[Ya hlt];exact hj):p:=h
theorem QHU{p:Prop}(h:p:=by
 have hlt:j<ys.length:=by
  rcases Z9 j ys.length with h|h
  ·exact h
  ·simp[h]at hj
 rcases hy with hy|⟨b,o',ha,hc⟩
 ·subst hy;simp at hlt
 ·simp only[ZL]at ha
  subst ha;exact QHC):p:=h
theorem QHB{p:Prop}(h:p:=by
 exact⟨rfl,⟨us,Qu⟩,(Yk.of Wi.out).trans (Yk.of (ZR _ _))⟩):p:=h
theorem QHV{p:Prop}(h:p:=by
 go_meet;exact QHB):p:=h
theorem QHW{p:Prop}(h:p:=by
 clear h0 e1;go_wp2;exact QHi):p:=h
theorem QHz{p:Prop}(h:p:=by
 go_enter Tryz.func162,Tryz.ntmps162
 exact QHj):p:=h
theorem QHy{p:Prop}(h:p:=by
 go_enter Tryz.func34,Tryz.ntmps34
 go_wp2_with fail
 refine HC.out.mono ?_;rintro e w7 ⟨rfl,hv⟩;go_wp2
 go_end0
 exact⟨rfl,hv⟩):p:=h
theorem QHk{p:Prop}(h:p:=by
 refine⟨i+1,Qy,by rw[Rs.out],QQ,?_,QC4⟩;intro j hj;exact QIj):p:=h
theorem QHu{p:Prop}(h:p:=by
 go_wp2;go_meet;exact⟨QEh,hW3.symm⟩):p:=h
theorem QHv{p:Prop}(h:p:=by
 obtain⟨b,o,hb,hc⟩:=h5.at (k:=0) QQ;rw[e]at hb;simp only[ZL]at hb;subst hb;exact Xb (hc 0 QQ)):p:=h
theorem QHD{p:Prop}(h:p:=by
 obtain⟨a1,a2,a3,a4⟩:=h;obtain⟨b1,b2,b3,b4⟩:=h';rcases XL a b with h|h|h
 ·have:=b3 a h
  rcases a4 with h'|h'|h'
  ·omega
  ·omega
  ·exact absurd this h'
 ·exact h
 ·have:=a3 b h
  rcases b4 with h'|h'|h'
  ·omega
  ·omega
  ·exact absurd this h'):p:=h
theorem QMQ{p:Prop}(h:p:=by
 have h2:=h1.store (S':={S with pos:=max 0 (S.pos-1),mode:=0}) 2 (.int .i64 0) {h1.hf.d with mode:=rfl};exact⟨rfl,QEf⟩):p:=h
theorem QHE{p:Prop}(h:p:=by
 go_wp2
 go_end0
 have h1:=HA.out.store (S':={S with pos:=max 0 (S.pos-1)}) 1 (.int .i64 0) {HA.out.hf.d with pos:=by rw[<-HSP.out];rfl};exact QMQ):p:=h
theorem QLx{p:Prop}(h:p:=by
 by_cases e:j=i
 ·rw[e];exact HNF.out
 ·exact JM.out j QQ h2 h3):p:=h
theorem QHF{p:Prop}(h:p:=by
 clear hq;go_wp2;go_roundw
 case rel=>
  refine⟨i,Qy,QQ,QQ,?_,QC4⟩;intro j h1 h2 h3;exact QLx
 case measure=>simp[intOf]):p:=h
theorem QHG{p:Prop}(h:p:=by
 go_quiet (fail)
 all_goals
  go_wp2;go_meet;exact⟨rfl,_,QM⟩):p:=h
theorem QHH{p:Prop}(h:p:=by
 go_wp2;exact QHi):p:=h
theorem QHI{p:Prop}(h:p:=by
 refine⟨h.1,?_⟩;rcases h.2 with hn|⟨g,cap,cur,rfl,hb',hgg,rest⟩
 ·exact .inl hn
 ·exact .inr ⟨g,cap,cur,rfl,hb',ZX,rest⟩):p:=h
theorem QHL{p:Prop}(h:p:=by
 go_enter Tryz.func115,Tryz.ntmps115
 go_wp2_with ((go_at_call 137);refine HN.out.mono ?_;rintro e w2 ⟨x,g,rfl,hx,hb2⟩;rcases EK hx with⟨rfl,hg⟩|⟨rfl,hg⟩)
 ·go_ret
  exact⟨Xg QD0,hb2⟩
 ·go_ret
  exact⟨Xg QD0,hb2⟩):p:=h
theorem QHM{p:Prop}(h:p:=by
 obtain⟨x0,x1,x2,x3,x4,x5,x6,x7,x8,x9,bD,x11,x12,x13,x14,x15,x16,x17,x18,x19,x20,x21,bC,bB,x24,x25,bA,rfl⟩:=QYQ hr
 kernel_rfl):p:=h
theorem QHN{p:Prop}(h:p:=by
 go_wp2_with (go_at_call 31;refine(XY (qO ma mc k) (p-j-k) (mc-k) ((m.take (p-j)).drop k) _ uW HCL.out QQ HC0.out).mono ?_;rintro e w8 ⟨v8,rfl,o8,XH⟩;obtain⟨a8,n8,c8,rfl⟩:=o8.form)
 go_ret2
 exact HF.out a8 n8 c8 w8 o8 XH):p:=h
theorem QHO{p:Prop}(h:p:=by
 clear hmode hov hm2;go_wp2;go_meet;exact⟨q,q,_,1,1,rfl,rfl,rfl,QQ,QQ,⟨[key],0,Ev,rfl,HK.out,fun h=>absurd h hnb⟩,QQ,(fun h=>QEj),(hP.drewN nq).alloc _,(hA.drewN nq).alloc _,hb0.alloc hb0.size _⟩):p:=h
theorem QHP{p:Prop}(h:p:=by
 rintro e w' (⟨k,hk,h⟩|⟨hk,h⟩)
 ·exact⟨_,_,_,.inr (.inr (.inr (.inl ⟨QR,QQ,QFZ,k,QDI,rfl,rfl,rfl⟩))),by rw[hq];exact h⟩
 ·exact⟨_,_,_,.inr (.inr (.inr (.inr ⟨QR,QQ,QFZ,QDI,rfl,rfl,rfl⟩))),h⟩):p:=h
theorem QHR{p:Prop}(h:p:=by
 by_cases c2:k=0
 ·rw[if_pos c2]at h;cases h
 ·rw[if_neg c2]at h;simp at h;omega):p:=h
theorem QHS{p:Prop}(h:p:=by
 obtain⟨h1,h2⟩:=h;constructor
 ·rintro⟨h3,h4⟩
  refine⟨hk,fun j hj=>?_⟩;rw[h4 j hj,h2 (k-k'+j) QQ];congr 1;omega
 ·rintro⟨h3,h4⟩
  refine⟨QQ,fun j hj=>?_⟩;rw[h4 j hj,h2 (k-k'+j) QQ];congr 1;omega):p:=h
theorem QHT{p:Prop}(h:p:=by
 obtain⟨a,n,c,h1,h2,h3,h4,h5,h6,h7⟩:=h;refine⟨a,n,c,h1,h2,h3,h4,?_,h6,h7⟩;rcases h5 with h5|⟨b,o,rfl,h5⟩
 ·exact .inl h5
 ·exact .inr ⟨b,o,rfl,fun i hi=>hc _ _ (show P b from h7 ⟨b,o,none⟩ rfl QQ) (h5 i hi)⟩):p:=h
theorem QHa{p:Prop}(h:p:=by
 rintro e w' (⟨k,hk,h⟩|⟨hk,h⟩)
 ·exact⟨_,_,_,.inr (.inr (.inr (.inl ⟨QR,QQ,QE0,k,QDI,rfl,rfl,rfl⟩))),by rw[hq];exact h⟩
 ·exact⟨_,_,_,.inr (.inr (.inr (.inr ⟨QR,QQ,QE0,QDI,rfl,rfl,rfl⟩))),h⟩):p:=h
theorem QHb{p:Prop}(h:p:=by
 exact⟨_,_,_,_,rfl,xS _ _,Yn.nil _ _,Jd Z0 (ZA _)⟩):p:=h
theorem QHc{p:Prop}(h:p:=by
 go_wp2
 all_goals
  go_ret;refine⟨XE ?_,rfl⟩;unfold Hw;omega):p:=h
theorem QIF{p:Prop}(h:p:=by
 refine⟨k+1,mm,f,Qy,QQ,QQ,?_,?_⟩
 ·rw[HS2.out];intro o;exact Nat.le_succ_of_le (hlen o)
 ·rw[HS2.out];exact Pj):p:=h
theorem QHe{p:Prop}(h:p:=by
 go_roundw
 case rel=>
  exact QIF
 case measure=>simp[intOf];omega):p:=h
theorem QHf{p:Prop}(h:p:=by
 clear hmode hov hm2 i3 h2;go_wp2;refine ZC (v:=.tuple #[.agg #[.slice none 0 0,.int .i64 0],.int .i64 8]) QA rfl ?_;exact Y3.of HK.out (fun h=>absurd h hnb) (.inl rfl) rfl QQ HBZ.out):p:=h
theorem QHh{p:Prop}(h:p:=by
 unfold Jn at h;split at h
 ·omega
 ·split at h
  ·rcases h with⟨t,h1,_,_,h2⟩|⟨_,h2⟩<;>(try dsimp only at h2)<;>omega
  ·rcases h with⟨t,h1,_,_,h2⟩|⟨_,h2⟩<;>(try dsimp only at h2)<;>omega):p:=h
theorem QHl{p:Prop}(h:p:=by
 obtain⟨a,n,c,h1,h2,h3,h4,h5,h6,h7⟩:=h;exact⟨a,n,c,h1,h2,h3,h4,h5,h6,fun ad e p=>hi _ (h7 ad e p)⟩):p:=h
theorem QHn{p:Prop}(h:p:=by
 have h1:=HBK.out;exact QIY):p:=h
theorem QHo{p:Prop}(h:p:=by
 refine⟨h1.le,?_⟩;obtain⟨X,g1,g2,g3⟩:=h1.ex;exact⟨X,g1,g2,fun i hi hp=>g3 i hi (by
  rcases hp with hp|hp|hp
  ·exact .inl hp
  ·exact .inr (.inl (.inl hp))
  ·exact .inr (.inr hp))⟩):p:=h
theorem QHp{p:Prop}(h:p:=by
 go_wp2
 go_end0
 exact⟨rfl,hv⟩):p:=h
theorem QHr{p:Prop}(h:p:=by
 go_enter Tryz.func173,Tryz.ntmps173
 go_wp2_with ((go_at_call 174);refine(Kw _ _).mono ?_;rintro e w' ⟨rfl,rfl⟩;rw[HK.out])
 all_goals
  go_ret;exact⟨rfl,hacc⟩):p:=h
theorem QHs{p:Prop}(h:p:=by
 intro j hj;exact QIj):p:=h
theorem QHt{p:Prop}(h:p:=by
 go_wp2;go_ret3
 rw[HG.out];exact⟨rfl,ZH _ _⟩):p:=h
theorem QIV{p:Prop}(h:p:=by
 simp at h;obtain⟨h1,_⟩:=h;split at h1<;>omega):p:=h
theorem QH0{p:Prop}(h:p:=by
 rcases hy:(JY l k arg)[n.toNat-1]? with _|y
 ·rw[hy]at h;cases h
 ·rw[hy]at h
  have hy:=Am _ _ _ _ y (X4 hy);exact QIV):p:=h
theorem QH1{p:Prop}(h:p:=by
 rcases hy:(Jk l k arg)[n.toNat-1]? with _|y
 ·rw[hy]at h;cases h
 ·rw[hy]at h
  have hy:=FL _ _ _ y (X4 hy);exact QIV):p:=h
theorem QH2{p:Prop}(h:p:=by
 rcases hM.gB with hg|hg
 ·exact hn hg
 ·omega):p:=h
theorem QH3{p:Prop}(h:p:=by
 exact Y3.of HK.out (fun h=>absurd h hnb) (.inl rfl) rfl QQ ((below_drewN hb nq).setCell (p:=⟨w.heap.size+1,0,none⟩) (ZA _) _ |>.setCell (p:=⟨w.heap.size+1,1,none⟩) (ZA _) _)):p:=h
theorem QH4{p:Prop}(h:p:=by
 obtain⟨c0,c1,c2,c3,c4⟩:=hA.five;clear hin;go_wp2;go_ret2
 exact⟨.slice none 0 0,by rw[HE.out.2];rfl,by rw[HE.out.1];exact Own.nil _ _ _,hacc⟩):p:=h
theorem QH5{p:Prop}(h:p:=by
 go_wp2;go_ret;exact⟨rfl,rfl⟩):p:=h
theorem QH6{p:Prop}(h:p:=by
 exact hM.now.move (fun _ h=>h) fun C hC=>⟨hs C (hne C (.inr (.inr ⟨C,hC,.inl rfl⟩))),fun tv k g1 g2=>hs k (hne k (.inr (.inr ⟨C,hC,.inr ⟨tv,g1,g2⟩⟩)))⟩):p:=h
theorem QH7{p:Prop}(h:p:=by
 unfold SS.command;dsimp only;rw[if_neg QZ];rw[if_neg QZ];rw[if_neg QZ];rw[if_neg QZ];rw[if_neg QZ];rw[if_neg QZ];rw[if_neg QZ];rw[if_neg QZ];rw[if_pos QZ];rfl):p:=h
theorem QH8{p:Prop}(h:p:=by
 subst ha;exact QHC):p:=h
theorem QH9{p:Prop}(h:p:=by
 go_wp2;go_meet;rw[HD.out];exact⟨rfl,rfl⟩):p:=h
theorem QHw{p:Prop}(h:p:=by
 refine⟨i,Qy,QQ,QQ,?_,QC4⟩;intro j h1 h2 h3;exact QLx):p:=h
theorem QIQ{p:Prop}(h:p:=by
 refine Eq.trans this ?_;show G.mk _ _ _=G.mk _ _ _;congr 1
 omega):p:=h
theorem QId{p:Prop}(h:p:=by
 unfold Jc;rw[if_pos QDP,<-HX1.out];exact HSK.out.drewN m):p:=h
theorem QIZ{p:Prop}(h:p:=by
 rw[nM.out];exact QId):p:=h
theorem QIX{p:Prop}(h:p:=by
 refine⟨h.1,?_⟩;rcases h.2 with hn|⟨g,cap,cur,rfl,hb',hgg,rest⟩
 ·exact .inl hn
 ·exact .inr ⟨g,cap,cur,rfl,hb',by rw[hb g rfl];exact hgg,rest⟩):p:=h
theorem QIJ{p:Prop}(h:p:=by
 go_wp2;go_roundw
 case rel=>exact⟨k+1,Qy,QQ,by rw[E],by rw[E];exact hown,by rw[E];exact hP,hR,hacc⟩
 case measure=>simp[intOf];omega):p:=h
theorem QIK{p:Prop}(h:p:=by
 exact⟨.inl ⟨i,QW,HF.out,JM.out,by rw[HP.out];rfl⟩,(hb.setCell (p:=⟨w.heap.size,0,none⟩) (ZB _) _).setCell (p:=⟨w.heap.size,1,none⟩) (ZB _) _⟩):p:=h
theorem QIU{p:Prop}(h:p:=by
 exact⟨rfl,⟨us,Qd⟩,Yk.refl _ _⟩):p:=h
theorem QIW{p:Prop}(h:p:=by
 unfold SS.command;dsimp only;rw[if_neg QZ];rw[if_neg QZ];rw[if_neg QZ];rw[if_neg QZ];rw[if_neg QZ];rw[if_neg QZ];rw[if_neg QZ];rw[if_pos QZ];rfl):p:=h
theorem QIq{p:Prop}(h:p:=by
 go_enter Tryz.func189,Tryz.ntmps189
 go_wp2;go_ret3
 exact⟨rfl,rfl⟩):p:=h
theorem QIz{p:Prop}(h:p:=by
 obtain⟨p,hp,hu⟩:=List.mem_flatMap.1 hu;have:=hok p hp;simp[V2.cells]at hu;rcases hu with rfl|rfl
 ·exact this.1
 ·exact this.2):p:=h
theorem QIx{p:Prop}(h:p:=by
 rw[hadd,hc j hlt];rw[List.getElem?_map,Z8 hlt]at hj;rw[Ya hlt];exact hj):p:=h
theorem QIy{p:Prop}(h:p:=by
 go_wp2
 go_end0
 obtain⟨F9,f9,qV,-,-⟩:=qf.call iG;exact⟨rfl,QEP⟩):p:=h
theorem QIk{p:Prop}(h:p:=by
 go_ret;refine⟨XE ?_,rfl⟩;unfold Hw;omega):p:=h
theorem QIu{p:Prop}(h:p:=by
 go_wp2;go_meet;exact⟨rfl,_,QM⟩):p:=h
theorem QIA{p:Prop}(h:p:=by
 rw[nM.out];unfold Jc;rw[if_neg QDP];exact HBK.out):p:=h
theorem QIB{p:Prop}(h:p:=by
 have hz2:=HF.out;refine⟨⟨v3,_,_,_,_,⟨j+1,Qy,b,rfl,QQ,by simpa using hz,by simpa using hz2⟩,rfl,rfl,rfl,rfl,rfl⟩,Qp⟩):p:=h
theorem QIC{p:Prop}(h:p:=by
 refine⟨a,n,c,h1,h2,h3,h4,h5,h6,fun ad ea p=>?_⟩;subst h1 ea;rcases h.2 with⟨h8,_⟩|⟨g,cap,cur,h8,_⟩<;>simp_all[Value.ownBlock]):p:=h
theorem QID{p:Prop}(h:p:=by
 refine⟨h.1,?_⟩;rcases h.2 with hn|⟨g,cap,cur,rfl,hb',hgg,rest⟩
 ·exact .inl hn
 ·exact .inr ⟨g,cap,cur,rfl,hb',QEJ,rest⟩):p:=h
theorem QIE{p:Prop}(h:p:=by
 unfold C5.v at this;exact this):p:=h
theorem QIG{p:Prop}(h:p:=by
 go_enter Tryz.func49,Tryz.ntmps49
 go_wp2
 all_goals
  go_ret;refine⟨Xg ?_,rfl⟩;rw[Bool.eq_iff_iff];simp[KD]
  try omega):p:=h
theorem QIH{p:Prop}(h:p:=by
 rw[ho]at hn;have:f 47=.pointer none:=hn;rw[hC]at this;cases this):p:=h
theorem QII{p:Prop}(h:p:=by
 unfold bt zJ ix;by_cases hj:j<A.length
 ·have hb:=h _ (YQ hj)
  simp[List.getD,hj];omega
 ·simp[List.getD,Nat.le_of_not_lt hj]):p:=h
theorem QIL{p:Prop}(h:p:=by
 refine⟨⟨k+1,Qy,QQ,fun j hj=>?_,QC4⟩,Qp⟩;rcases XZ.1 hj with h|rfl
 ·exact JM.out j h
 ·exact HT.out.symm):p:=h
theorem QIM{p:Prop}(h:p:=by
 exact(((ZE hbx hbx.size Jp)).setCell (p:=⟨w.heap.size+1,0,none⟩) (ZA _) _).setCell (p:=⟨w.heap.size+1,1,none⟩) (ZA _) _):p:=h
theorem QIN{p:Prop}(h:p:=by
 obtain⟨y0,-⟩:=Za.one (Za.new w #[.int .i64 x] 3);refine .inr ⟨_,0,rfl,fun i hi=>?_⟩;obtain rfl:i=0:=QDb;exact y0):p:=h
theorem QIO{p:Prop}(h:p:=by
 by_cases c2:op=false/\Yb (Vi l (key==69)) n.toNat k=k
 ·rw[if_pos c2]at h;cases h
 ·rw[if_neg c2]at h;simp at h;omega):p:=h
theorem QIP{p:Prop}(h:p:=by
 go_wp2;go_ret2
 exact kg.no PE.out):p:=h
theorem QIR{p:Prop}(h:p:=by
 unfold Kc;split
 ·rename_i r hr
  have hr:=Yo hr;have:=Jn.le (KG l l.length r QQ) QQ;omega
 ·omega):p:=h
theorem QIS{p:Prop}(h:p:=by
 go_simp;go_wp2
 go_end0
 rw[mF,chL,HY.out,hK2];exact⟨rfl,iH,((Yk.of hb2).drew).trans qV⟩):p:=h
theorem QIT{p:Prop}(h:p:=by
 subst hk;exact ho0.XP (show Za w g cur _ from hgg) QZ e.symm):p:=h
theorem QIa{p:Prop}(h:p:=by
 rcases Z9 j ys.length with h|h
 ·exact h
 ·simp[h]at hj):p:=h
theorem QIb{p:Prop}(h:p:=by
 have HP:=Zy hp.symm;clear hp;go_wp2;go_ret2
 exact zH.of HP.out (.inl rfl) hacc):p:=h
theorem QIc{p:Prop}(h:p:=by
 intro j h1 h2 h3;exact QLx):p:=h
theorem QIe{p:Prop}(h:p:=by
 rw[hg.block k (Zc hk hb.size) (fun e=>hn e.symm),hb.block k hk]):p:=h
theorem QIf{p:Prop}(h:p:=by
 go_wp2
 all_goals
  go_ret;refine⟨Xg ?_,rfl⟩;rw[HF.out,Bool.eq_iff_iff];simp
  try omega):p:=h
theorem QIg{p:Prop}(h:p:=by
 rcases h.yR o s hk x QQ hx2 with⟨j,h1,h2,h3⟩|h1
 ·exact .inl ⟨j,QQ,h2,h3⟩
 ·exact .inr h1):p:=h
theorem QIh{p:Prop}(h:p:=by
 obtain⟨h1,_⟩:=h;split at h1<;>omega):p:=h
theorem QIi{p:Prop}(h:p:=by
 go_ret3
 exact QLV):p:=h
theorem QIl{p:Prop}(h:p:=by
 refine⟨XE ?_,rfl⟩;unfold Hw;omega):p:=h
theorem QIm{p:Prop}(h:p:=by
 split
 ·exact Tl.Y2 S
 ·exact Tl.any rfl rfl rfl rfl rfl):p:=h
theorem QIn{p:Prop}(h:p:=by
 go_ret;exact⟨XE HE.out.symm,hb1⟩):p:=h
theorem QIo{p:Prop}(h:p:=by
 go_wp2;go_ret;exact⟨rfl,xB.out⟩):p:=h
theorem QIp{p:Prop}(h:p:=by
 go_enter Tryz.func28,Tryz.ntmps28
 go_wp2;go_ret2
 exact⟨ZH _ _,.inl ⟨JM.out,rfl⟩⟩):p:=h
theorem QIr{p:Prop}(h:p:=by
 go_wp2;go_ret;exact⟨rfl,hbel⟩):p:=h
theorem QIs{p:Prop}(h:p:=by
 go_enter Tryz.func136,Tryz.ntmps136
 go_wp2;go_ret;exact⟨none,.nil,rfl,rfl,rfl,ZH _ _⟩):p:=h
theorem QIt{p:Prop}(h:p:=by
 go_wp2;go_ret;exact⟨rfl,⟨_,H3.out.drew.Ux _⟩,(HA1.out.trans hA3.drew).trans (Yk.set _)⟩):p:=h
theorem QI0{p:Prop}(h:p:=by
 rcases h with h|⟨b,o,ha,h⟩
 ·exact .inl h
 ·exact .inr ⟨b,o,ha,fun i hi=>hc _ _ (h i hi)⟩):p:=h
theorem QI1{p:Prop}(h:p:=by
 have h:=Za.new (w.alloc (.cells u e)) v f;rw[Zu]at h;exact⟨(Za.new _ _ _).alloc _,h,Zo _ _ _⟩):p:=h
theorem QI2{p:Prop}(h:p:=by
 unfold Jc;rw[if_neg QDP];exact HBK.out):p:=h
theorem QI3{p:Prop}(h:p:=by
 go_region_law fail
 all_goals
  go_wp2;go_meet;exact⟨rfl,rfl,rfl,(ZH _ _).drew⟩):p:=h
theorem QI4{p:Prop}(h:p:=by
 go_wp2;go_ret;exact⟨rfl,⟨_,H1.out⟩,HA1.out⟩):p:=h
theorem QI5{p:Prop}(h:p:=by
 refine⟨?_,Qo,?_,hmd⟩<;>simp<;>omega):p:=h
theorem QI6{p:Prop}(h:p:=by
 exact ZC (v:=.tuple #[TK.wrong.q,TK.wrong.c,.int .i64 3,.int .i64 0]) QEe rfl (XF.of (hacc _ _ _))):p:=h
theorem QI7{p:Prop}(h:p:=by
 have hy:=Am _ _ _ _ y (X4 hy);exact QIV):p:=h
theorem QI8{p:Prop}(h:p:=by
 exact {h with p0:=by dsimp only;omega,p1:=by dsimp only;omega,pc:=fun h=>QDN,md:=.inr (.inl rfl)}):p:=h
theorem QI9{p:Prop}(h:p:=by
 obtain⟨a',n',c',h1,rest⟩:=h;simp only[Xy]at h1;obtain⟨rfl,rfl,rfl⟩:=h1;exact rest):p:=h
theorem QIw{p:Prop}(h:p:=by
 go_enter Tryz.func126,Tryz.ntmps126
 go_wp2;go_ret;exact⟨XE HF.out.symm,hacc⟩):p:=h
theorem QLQ{p:Prop}(h:p:=by
 have hy:=FL _ _ _ y (X4 hy);exact QIV):p:=h
theorem QLZ{p:Prop}(h:p:=by
 go_ret;exact⟨rfl,hacc⟩):p:=h
theorem QLX{p:Prop}(h:p:=by
 go_ret;refine⟨Xg ?_,rfl⟩;rw[HF.out,Bool.eq_iff_iff];simp
 try omega):p:=h
theorem QLY{p:Prop}(h:p:=by
 rcases h with h|h
 ·subst h;simp at hk
 ·exact h):p:=h
theorem QLJ{p:Prop}(h:p:=by
 go_meet;exact⟨rfl,_,QM⟩):p:=h
theorem QLK{p:Prop}(h:p:=by
 intro k hk;rcases hk with hk|hk
 ·exact Zc (h.hf.lt k (.inl hk)) hsz
 ·exact hk.2):p:=h
theorem QLU{p:Prop}(h:p:=by
 clear hp hI hl;go_wp2;go_ret2
 exact zH.of HP.out (.inr ⟨rfl,rfl⟩) hacc):p:=h
theorem QLW{p:Prop}(h:p:=by
 refine⟨a,n,c,h1,h2,h3,h4,h5,h6,fun ad ea p=>?_⟩;subst h1 ea;exact h.row ad.block QER):p:=h
theorem QLq{p:Prop}(h:p:=by
 obtain⟨a,n,c,h⟩:=(HOW.out i (by rw[IZ.out]at hi;exact hi)).form;exact⟨a,n,c,h⟩):p:=h
theorem QLz{p:Prop}(h:p:=by
 go_wp2
 go_end0
 exact⟨rfl,HA.out.done⟩):p:=h
theorem QLy{p:Prop}(h:p:=by
 go_wp2;go_meet;exact⟨_,_,_,hx,rfl,rfl,rfl,((ZH _ _).drew.drew).trans XH⟩):p:=h
theorem QLj{p:Prop}(h:p:=by
 exact⟨h2.row,h3.kept Jp,h2.pat⟩):p:=h
theorem QLk{p:Prop}(h:p:=by
 go_enter Tryz.func142,Tryz.ntmps142
 go_wp2;go_ret;exact⟨rfl,ZR _ _⟩):p:=h
theorem QLu{p:Prop}(h:p:=by
 have um:=Zy hA3;clear hA3 hv;go_wp2
 go_end0
 exact⟨rfl,um.out.done⟩):p:=h
theorem QLv{p:Prop}(h:p:=by
 have hp':tmps[s]?.getD undef=.pointer (some ad):=QE9;simp[results,h,hp',asAddr,hl]):p:=h
theorem QLA{p:Prop}(h:p:=by
 exact ZC (J7 Tryz.results178 rfl (K4 hB2 Yd)) rfl ⟨XB,rfl,P9 _ _,hL2.Xw QQ hacc⟩):p:=h
theorem QLB{p:Prop}(h:p:=by
 rw[hbel.cell (Xb this)];exact this):p:=h
theorem QLC{p:Prop}(h:p:=by
 obtain⟨a,n,c,h1,h2,h3,h4,h5,h6⟩:=h;exact⟨a,n,c,h1,h2,h3,h4,h5.keep hc,h6⟩):p:=h
theorem QLD{p:Prop}(h:p:=by
 rw[show((j.toNat:Nat):Int)=j from QQ,(Ki _ _ _).2 hb]at this;simp at this;omega):p:=h
theorem QLE{p:Prop}(h:p:=by
 go_wp2;go_ret;exact⟨rfl,HBB.out⟩):p:=h
theorem QLF{p:Prop}(h:p:=by
 clear hK K;refine Zn (rs:=[27]) QX QJ ?_;refine ZT (o:=⟨some 22,.assign (.tmp 157),_,_,_,_⟩) rfl (fun K hK=>?_) ?_
 ·go_simp
  refine hK.out _ _ QI (fun hHeld=>?_);clear hK K;exact QFt
 exact Zh):p:=h
theorem QLG{p:Prop}(h:p:=by
 exact QFt):p:=h
theorem QLH{p:Prop}(h:p:=by
 clear hK K;exact QFt):p:=h
theorem QLI{p:Prop}(h:p:=by
 go_meet;exact QGJ):p:=h
theorem QLL{p:Prop}(h:p:=by
 exact QF7):p:=h
theorem QLM{p:Prop}(h:p:=by
 go_wp2;go_meet;exact QGJ):p:=h
theorem QLt{p:Prop}(h:p:=by
 have b10:=b9.trans (KI.mono vC);dsimp only;refine hK.out _ _ OC (fun hHeld=>?_);exact QFq):p:=h
theorem QLp{p:Prop}(h:p:=by
 have l10:=(YZ KI (p:=⟨J4,2,none⟩) kv).trans l9;exact QLt):p:=h
theorem QLd{p:Prop}(h:p:=by
 refine(Kg J8 J8 2 (some ⟨bb1,Wu,none⟩) n cb P lo hi B _ _ ((uu.out.JX (KF ‹_›)).imp (fun q hq=>Zc hq Jl)) hJ9 hPn hlh QQ hn QZ).mono ?_;rintro e Hl ⟨rfl,Lr,KI,QQY⟩;have OC:=Yt ‹_› Yj Yy KI Jl;exact QLp):p:=h
theorem QLS{p:Prop}(h:p:=by
 refine ZT (o:=⟨some 150,_,_,_,_,_⟩) rfl (fun K hK=>?_) ?_
 ·go_simp
  exact QLd
 exact Zh):p:=h
theorem QLP{p:Prop}(h:p:=by
 refine Zn (rs:=[19]) QX QJ ?_;exact QLS):p:=h
theorem QLb{p:Prop}(h:p:=by
 have l9:=(YZ Jp (p:=⟨J4,2,none⟩) kv).trans l8;have b9:=XH.trans (Jp.mono vC);dsimp only;refine hK.out _ _ hS9 (fun hHeld=>?_);clear hK K;exact QLP):p:=h
theorem QLR{p:Prop}(h:p:=by
 refine(Kq J8 J8 0 (some ⟨bb1,Wu,none⟩) n cb pa P B _ _ ((uu.out.JX (KF ‹_›)).imp (fun q hq=>Zc hq Jl)) hJ8 QQ hPn hn QZ).mono ?_;rintro e w9 ⟨rfl,hJ9,Jp,kz⟩;have hS9:=Yt ‹_› Yj Yy Jp Jl;exact QLb):p:=h
theorem QLN{p:Prop}(h:p:=by
 clear hK K;refine Zn (rs:=[16]) QX QJ ?_;refine ZT (o:=⟨some 147,_,_,_,_,_⟩) rfl (fun K hK=>?_) ?_
 ·go_simp
  exact QLR
 exact Zh):p:=h
theorem QLO{p:Prop}(h:p:=by
 clear hK K;exact QLP):p:=h
theorem QLT{p:Prop}(h:p:=by
 rintro e w9 ⟨rfl,hJ9,Jp,kz⟩;have hS9:=Yt ‹_› Yj Yy Jp Jl;exact QLb):p:=h
theorem QLa{p:Prop}(h:p:=by
 have hS9:=Yt ‹_› Yj Yy Jp Jl;exact QLb):p:=h
theorem QLg{p:Prop}(h:p:=by
 refine hK.out _ _ hS9 (fun hHeld=>?_);clear hK K;exact QLP):p:=h
theorem QLc{p:Prop}(h:p:=by
 have b9:=XH.trans (Jp.mono vC);dsimp only;exact QLg):p:=h
theorem QLe{p:Prop}(h:p:=by
 rw[HR.out,HR2.out];have hG:=(hP2.set 0 (.int .i64 (Fh r))).set 1 (.bool (qX r));obtain⟨q0,q1,-,-⟩:=Za.two hG;refine ZC (v:=.tuple #[.agg #[.int .i64 (Fh r),.bool (qX r)],.int .i64 (bO r)]) QK rfl ⟨rfl,?_⟩;exact QF6):p:=h
theorem QLf{p:Prop}(h:p:=by
 dsimp only;exact QLg):p:=h
theorem QLh{p:Prop}(h:p:=by
 rintro e Hl ⟨rfl,Lr,KI,QQY⟩;have OC:=Yt ‹_› Yj Yy KI Jl;exact QLp):p:=h
theorem QLl{p:Prop}(h:p:=by
 have OC:=Yt ‹_› Yj Yy KI Jl;exact QLp):p:=h
theorem QLm{p:Prop}(h:p:=by
 rw[HR3.out];have hG:=(hP2.set 0 (.int .i64 (0))).set 1 (.bool false);obtain⟨q0,q1,-,-⟩:=Za.two hG;refine ZC (v:=.tuple #[.agg #[.int .i64 (0),.bool false],.int .i64 5]) QP rfl ⟨rfl,?_⟩;exact QF6):p:=h
theorem QLn{p:Prop}(h:p:=by
 clear hk2;go_enter Tryz.func186,Tryz.ntmps186
 go_wp2_with ((go_at_call 185);refine(Jm a n c l k m _ big _ hI HN.out hn2 hk hm).mono ?_;rintro e w2 ⟨rfl,hb2⟩;rw[HT.out];have hB2:=hB.below hb2 hB.lt;obtain⟨d0,d1,d2,d3⟩:=hB2.four;have hP2:=hP.below hb2 hP.lt;obtain⟨s0,s1,s2,s3⟩:=hP2.two;have Z0:=ZE hacc QY hb2)
 rw[HR.out];have hG:=(hP2.set 0 (.int .i64 (0))).set 1 (.bool false);obtain⟨q0,q1,-,-⟩:=Za.two hG;refine ZC (v:=.tuple #[.agg #[.int .i64 (0),.bool false],.int .i64 5]) ZK rfl ⟨rfl,?_⟩;exact QF6):p:=h
theorem QLo{p:Prop}(h:p:=by
 go_enter Tryz.func187,Tryz.ntmps187
 go_wp2_with ((go_at_call 185);refine(VS a n c l k m _ big _ hI HN.out hn2 hk hm).mono ?_;rintro e w2 ⟨rfl,hb2⟩;rw[HT.out];have hB2:=hB.below hb2 hB.lt;obtain⟨d0,d1,d2,d3⟩:=hB2.four;have hP2:=hP.below hb2 hP.lt;obtain⟨s0,s1,s2,s3⟩:=hP2.two;have Z0:=ZE hacc QY hb2)
 rw[HR.out];have hG:=(hP2.set 0 (.int .i64 (t))).set 1 (.bool true);obtain⟨q0,q1,-,-⟩:=Za.two hG;refine ZC (v:=.tuple #[.agg #[.int .i64 (t),.bool true],.int .i64 0]) QDd rfl ⟨rfl,?_⟩;exact QF6):p:=h
theorem QLr{p:Prop}(h:p:=by
 rw[HR.out,HT.out];have hG:=(hP2.set 0 (.int .i64 (t))).set 1 (.bool false);obtain⟨q0,q1,-,-⟩:=Za.two hG;refine ZC (v:=.tuple #[.agg #[.int .i64 (t),.bool false],.int .i64 0]) QK rfl ⟨rfl,?_⟩;exact QF6):p:=h
theorem QL0{p:Prop}(h:p:=by
 go_enter Tryz.func183,Tryz.ntmps183
 go_wp2;rw[HR.out,HM.out];have hG:=(hP.set 0 (.int .i64 ((k:Int)+m))).set 1 (.bool false);obtain⟨q0,q1,-,-⟩:=Za.two hG;refine ZC (v:=.tuple #[.agg #[.int .i64 ((k:Int)+m),.bool false],.int .i64 0]) Qm rfl ⟨rfl,?_⟩;exact QGY):p:=h
theorem QL2{p:Prop}(h:p:=by
 go_enter Tryz.func183,Tryz.ntmps183
 go_wp2;rw[HR.out];have hG:=(hP.set 0 (.int .i64 (0))).set 1 (.bool false);obtain⟨q0,q1,-,-⟩:=Za.two hG;refine ZC (v:=.tuple #[.agg #[.int .i64 (0),.bool false],.int .i64 5]) Qm rfl ⟨rfl,?_⟩;exact QGY):p:=h
theorem QL3{p:Prop}(h:p:=by
 have hX:=Ul.start w f r o s 0;obtain⟨b1,b2,b3,b4,b5⟩:=Jb hp;have HP:=Zy hp;clear hp;rw[Um hu,hk,if_neg QQ,if_neg QQ,if_neg QQ,if_pos QQ];have u1:32<=key:=Qe;have u2:(key==127)=false:=QO;clear hu;have HK:=Zy hk;clear hk;exact QFw):p:=h
theorem QL4{p:Prop}(h:p:=by
 rw[HR.out];have hG:=(hP2.set 0 (.int .i64 (0))).set 1 (.bool false);obtain⟨q0,q1,-,-⟩:=Za.two hG;refine ZC (v:=.tuple #[.agg #[.int .i64 (0),.bool false],.int .i64 5]) QDc rfl ⟨rfl,?_⟩;exact QF6):p:=h
theorem QL9{p:Prop}(h:p:=by
 refine hK.out _ _ OC (fun hHeld=>?_);exact QFq):p:=h
theorem QL5{p:Prop}(h:p:=by
 dsimp only;exact QL9):p:=h
theorem QL6{p:Prop}(h:p:=by
 have hG:=(hP.set 0 (.int .i64 (0))).set 1 (.bool false);obtain⟨q0,q1,-,-⟩:=Za.two hG;refine ZC (v:=.tuple #[.agg #[.int .i64 (0),.bool false],.int .i64 0]) QK rfl ⟨rfl,?_⟩;exact QGY):p:=h
theorem QL8{p:Prop}(h:p:=by
 go_wp2
 go_end0
 have h1:=HA.out.store (S':={S with pos:=max 0 (S.pos-1)}) 1 (.int .i64 0) {HA.out.hf.d with pos:=by rw[<-HSP.out];rfl};exact QGw):p:=h
theorem QLw{p:Prop}(h:p:=by
 have x3:(cm.c==121)=false:=QDz;clear e;exact QGe):p:=h
theorem QMZ{p:Prop}(h:p:=by
 go_enter Tryz.func57,Tryz.ntmps57
 go_wp2_with fail
 refine HB.out.mono ?_;rintro e w7 ⟨rfl,hv⟩;exact QHp):p:=h
theorem QMX{p:Prop}(h:p:=by
 obtain⟨a,n,c,h1,h2,h3,h4,h5,h6,h7⟩:=h;refine⟨a,n,c,h1,h2,h3,h4,h5,h6,fun ad e p=>⟨h7 ad e p,?_⟩⟩;exact QHv):p:=h
theorem QMY{p:Prop}(h:p:=by
 obtain⟨a,n,c,h1,h2,h3,h4,h5,h6⟩:=h;refine⟨a,n,c,h1,h2,h3,h4,h5,h6,fun ad e p=>?_⟩;exact QHv):p:=h
theorem QMJ{p:Prop}(h:p:=by
 go_wp2_with fail
 refine nD.out.mono ?_;rintro e w4 ⟨rfl,rfl⟩;exact QIP):p:=h
theorem QMK{p:Prop}(h:p:=by
 clear hbx;go_enter Tryz.func175,Tryz.ntmps175
 go_wp2_with ((go_at_call 182);refine(VK a n c l k m op arg _ hI HN.out hn2 hk hm0 QQ).mono ?_;rintro e w2 ⟨rfl,hb2⟩;rw[HR2.out];have hB2:=hB.below hb2 hB.lt;obtain⟨d0,d1,d2,d3⟩:=hB2.four;have hP2:=hP.below hb2 hP.lt;obtain⟨s0,s1,s2,s3⟩:=hP2.two;have Z0:=ZE hacc QY hb2;have z1:fiA none=0:=rfl;have z2:fiE none=5:=rfl)
 exact QLm):p:=h
theorem QMU{p:Prop}(h:p:=by
 clear hbx;go_enter Tryz.func175,Tryz.ntmps175
 go_wp2_with ((go_at_call 182);refine(UJ a n c l k m op arg _ hI HN.out hn2 hk hm0 QQ).mono ?_;rintro e w2 ⟨rfl,hb2⟩;rw[HR2.out];have hB2:=hB.below hb2 hB.lt;obtain⟨d0,d1,d2,d3⟩:=hB2.four;have hP2:=hP.below hb2 hP.lt;obtain⟨s0,s1,s2,s3⟩:=hP2.two;have Z0:=ZE hacc QY hb2;have z1:fiA none=0:=rfl;have z2:fiE none=5:=rfl)
 exact QLm):p:=h
end Go.Proofs.YtmdnepkekekncaaGreat

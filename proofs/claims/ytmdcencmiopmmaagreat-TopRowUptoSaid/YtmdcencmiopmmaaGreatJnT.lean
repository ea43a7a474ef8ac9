/- ends of proofs that stand more than once, each a theorem whose hypothesis its own tactics prove. -/
import Derived.WalkKit
import Derived.WalkSpells
import Derived.WalkLawsBesides
import Derived.Lib.Hide
import Derived.Below
import Derived.Deep.QuietTactic
import Derived.BigQuiet
import Derived.Handy
import Derived.Lib.SliceRun
import Derived.Deep.OwnRows
import Derived.Deep.MidRow
import Derived.Laws.Rows
import Derived.Deep.DeepCutAuto
import Derived.Deep.CutBlock
import Derived.Lib.AppendZeros
import Derived.Deep.RegionHeld3
import Derived.Deep.RegionLaw
import Derived.Deep.AppendLies
import Derived.Maps.Own
import Derived.Maps.Views
import Derived.Maps.OwnOps
import Derived.Maps.AppendAt
import Derived.Lib.ConvBytes
import Derived.Deep.Light
import Derived.Deep.LoopGhost
import Derived.Laws.CopyOwn
import Derived.Shelf.Bits.Mul64
import Derived.Lib.Bits
import Derived.Lib.QuoteBits
import Derived.Laws.BytesString
import Derived.Laws.Runes
import Derived.Laws.IdiomStrings
import Derived.Lib.RuneBytes
import Derived.Laws.Cover4
import Derived.Laws.RangeAny
import Derived.ProofKit
import Derived.OpenShut
import Derived.SliceStrings
import Derived.JoinedCond
import Derived.SizedLaws
set_option linter.unusedVariables false
set_option linter.unusedSimpArgs false
set_option maxRecDepth 100000
set_option maxHeartbeats 12000000
namespace Go.Proofs.YtmdcencmiopmmaaGreat
open Go.RowKit
theorem Zy{p:Prop}(h:p):Hid p:=h
theorem Zj:type_of% @List.setIfInBounds_toArray:=@List.setIfInBounds_toArray
theorem Zk:type_of% @List.set_cons_zero:=@List.set_cons_zero
theorem Zu:type_of% @List.set_cons_succ:=@List.set_cons_succ
theorem Zv:type_of% @World.size_alloc:=@World.size_alloc
theorem ZA:type_of% @Nat.le_succ:=@Nat.le_succ
theorem ZB:type_of% @Nat.le_refl:=@Nat.le_refl
theorem ZC:type_of% @bodyPost_ret:=@bodyPost_ret
theorem ZF:type_of% @Nat.lt_succ_self:=@Nat.lt_succ_self
theorem ZG:type_of% @decide_eq_false_iff_not:=@decide_eq_false_iff_not
theorem ZH:type_of% @Below.refl:=@Below.refl
theorem ZI:type_of% @List.contains_eq_mem:=@List.contains_eq_mem
theorem ZM:type_of% @Option.some.injEq:=@Option.some.injEq
theorem ZN:type_of% @List.not_mem_nil:=@List.not_mem_nil
theorem ZO:type_of% @AllReadyH.cons:=@AllReadyH.cons
theorem Zb:type_of% @List.mem_cons:=@List.mem_cons
theorem Zc:type_of% @Nat.lt_of_lt_of_le:=@Nat.lt_of_lt_of_le
theorem Zd:type_of% @List.length_append:=@List.length_append
theorem Ze:type_of% @List.eq_nil_of_length_eq_zero:=@List.eq_nil_of_length_eq_zero
theorem Zf:type_of% @List.getD_eq_getElem?_getD:=@List.getD_eq_getElem?_getD
theorem Zg:type_of% @AllReadyH.nil:=@AllReadyH.nil
theorem Zh:type_of% @Nat.le_trans:=@Nat.le_trans
theorem Zl:type_of% @wpAnyH_ready:=@wpAnyH_ready
theorem Zm:type_of% @Below.heap_setCell:=@Below.heap_setCell
theorem Zp:type_of% @List.length_take:=@List.length_take
theorem Zt:type_of% @Bool.false_eq_true:=@Bool.false_eq_true
theorem Z0:type_of% @Nat.zero_le:=@Nat.zero_le
theorem Z5:type_of% @Classical.byContradiction:=@Classical.byContradiction
theorem Z7:type_of% @Nat.lt_or_ge:=@Nat.lt_or_ge
theorem Z9:type_of% @Int.eq_ofNat_of_zero_le:=@Int.eq_ofNat_of_zero_le
theorem XZ:type_of% @beq_eq_false_iff_ne:=@beq_eq_false_iff_ne
theorem XX:type_of% @List.take_succ_eq_append_getElem:=@List.take_succ_eq_append_getElem
theorem XY:type_of% @List.getElem?_append_right:=@List.getElem?_append_right
theorem XJ:type_of% @List.getElem?_eq_getElem:=@List.getElem?_eq_getElem
theorem XK:type_of% @Nat.lt_succ_iff_lt_or_eq:=@Nat.lt_succ_iff_lt_or_eq
theorem XV:type_of% @List.take_of_length_le:=@List.take_of_length_le
theorem Xq:type_of% @Int.toNat_natCast:=@Int.toNat_natCast
theorem Xx:type_of% @Value.slice.injEq:=@Value.slice.injEq
theorem Xy:type_of% @List.length_drop:=@List.length_drop
theorem Xk:type_of% @World.size_drew:=@World.size_drew
theorem XC:type_of% @Nat.lt_trichotomy:=@Nat.lt_trichotomy
theorem XD:type_of% @List.length_cons:=@List.length_cons
theorem XH:type_of% @World.ownsRow.lt:=@World.ownsRow.lt
theorem XI:type_of% @decide_eq_true_eq:=@decide_eq_true_eq
theorem XL:type_of% @List.mem_append:=@List.mem_append
theorem XM:type_of% @Nat.eq_zero_or_pos:=@Nat.eq_zero_or_pos
theorem XN:type_of% @Nat.zero_add:=@Nat.zero_add
theorem XO:type_of% @And.right:=@And.right
theorem XR:type_of% @List.getElem?_append_left:=@List.getElem?_append_left
theorem Xf:type_of% @info_parts:=@info_parts
theorem Xg:type_of% @Nat.le_add_right:=@Nat.le_add_right
theorem Xh:type_of% @IntKind.wrap_i64:=@IntKind.wrap_i64
theorem Xn:type_of% @if_false:=@if_false
theorem Xo:type_of% @List.mem_of_getElem?:=@List.mem_of_getElem?
theorem Xp:type_of% @World.cell?_setCell_other:=@World.cell?_setCell_other
theorem Xr:type_of% @Nat.le_of_lt:=@Nat.le_of_lt
theorem X4:type_of% @List.length_set:=@List.length_set
theorem X6:type_of% @List.length_pos_iff:=@List.length_pos_iff
theorem X8:type_of% @Nat.add_zero:=@Nat.add_zero
theorem Xw:type_of% @List.mem_iff_getElem:=@List.mem_iff_getElem
theorem YQ:type_of% @IntWalk.i64_in:=@IntWalk.i64_in
theorem YZ:type_of% @List.length_map:=@List.length_map
theorem YK:type_of% @List.getElem_mem:=@List.getElem_mem
theorem YU:type_of% @Int.lt_or_le:=@Int.lt_or_le
theorem YA:type_of% @congrArg:=@congrArg
theorem YB:type_of% @Addr.mk.injEq:=@Addr.mk.injEq
theorem YR:type_of% @World.ownsRow_nil:=@World.ownsRow_nil
theorem Ya:type_of% @wpAnyH_done:=@wpAnyH_done
theorem Yb:type_of% @Nat.min_eq_left:=@Nat.min_eq_left
theorem Yg:type_of% @Prod.mk.injEq:=@Prod.mk.injEq
theorem Yn:type_of% @run_underlying:=@run_underlying
theorem Yr:type_of% @Result.andThen_ok:=@Result.andThen_ok
theorem Y3:type_of% @all_oneCell_toArray:=@all_oneCell_toArray
theorem JJ:type_of% @List.length_replicate:=@List.length_replicate
theorem ZP{P:Program}{ops:Array Oper}{Q:Exit->Act->World->Prop}{md:Region.Mode}{S:World->Prop}(i:Nat)(oi:Oper)(v:Value){fuel:Nat}{listed:Array Bool}{a:Act}{w:World}(h:wpAnyH P md ops Q S fuel (listed.setIfInBounds i true) (a.put oi.dst v) w)(hi:ops[i]? =some oi:=by rfl)(hs:Region.noSelect ops=true:=by kernel_rfl)(hf:Region.free md ops listed i=true:=by kernel_rfl)(hr:(Region.ready md ops listed).contains i=true:=by kernel_rfl)(hQ:∀c a w,Q (.panic c) (a.put oi.dst v) w->Q (.panic c) a w:=by exact fun _ _ _ h=>h)(hy:YieldsIf P ops S oi v a:=by exact Or.inl ⟨by rfl,fun w hSw=>by(dsimp only at hSw;go_simp)⟩)(hS:S w:=by assumption):wpAnyH P md ops Q S (fuel+1) listed a w:=wpAnyH_take hi hs hf hr hQ hy hS h
theorem QQ{p:Prop}(h:p:=by omega):p:=h
theorem QZ{p:Prop}(h:p:=by decide):p:=h
theorem QX{p:Prop}(h:p:=by kernel_rfl):p:=h
theorem QY{p:Prop}(h:p:=by simp;omega):p:=h
theorem QJ{p:Prop}(h:p:=by simp):p:=h
theorem QK{p:Prop}(h:p:=by simp[results,Tryz.results290,go_sem,q0,q1]):p:=h
theorem QU{p:Prop}(h:p:=by show p.block≠w.heap.size+1;omega):p:=h
theorem QV{p:Prop}(h:p:=by show w.heap.size<=w.heap.size+2;omega):p:=h
theorem QW{p:Prop}(h:p:=by simp[results,Tryz.results132,go_sem,y0,y1,y2,y3,y4,y5,X3]):p:=h
theorem Qq{p:Prop}(h:p:=by rw[<-hls.len];exact hl1):p:=h
theorem Qz{p:Prop}(h:p:=by simp[results,Tryz.results269,go_sem,y0,y1,y2,x0,x1]):p:=h
theorem Qx{p:Prop}(h:p:=by rw[HN.out];exact hlt):p:=h
theorem Qy{p:Prop}(h:p:=by show w.heap.size<=w.heap.size+4;omega):p:=h
theorem Qj{p:Prop}(h:p:=by simp[results,Tryz.results89,go_sem,TK.more,TK.q,TK.c,y0,y1,y2,y3,y4,z0,z1,z2,z3,z4]):p:=h
theorem Qk{p:Prop}(h:p:=by go_num):p:=h
theorem Qu{p:Prop}(h:p:=by have e:cm=s.cm:=by {rw[<-HL.out,yF.out,Kj.out HK.out,<-HC.out]};rw[e];exact(HX.out.to qY.out).alloc _):p:=h
theorem Qv{p:Prop}(h:p:=by show w.heap.size<=w2.heap.size;omega):p:=h
theorem QA{p:Prop}(h:p:=by simp[results,Tryz.results136,go_sem,y0,y1]):p:=h
theorem QB{p:Prop}(h:p:=by rw[HN.out];omega):p:=h
theorem QC{p:Prop}(h:p:=by show w.heap.size<=w2.heap.size+1;omega):p:=h
theorem QD{p:Prop}(h:p:=by show w.heap.size<=w.heap.size+3;omega):p:=h
theorem QE{p:Prop}(h:p:=by rw[HL.out];exact hlt):p:=h
theorem QF{p:Prop}(h:p:=by have:=hok.len;have:=hok.UQ;simp only at *;omega):p:=h
theorem QG{p:Prop}(h:p:=by refine Zo.call hb5 ?_;repeat' (first|(with_reducible exact ZH _ _)|(with_reducible refine Zo.alloc ?_)|(with_reducible refine Zo.drew ?_))):p:=h
theorem QH{p:Prop}(h:p:=by assumption):p:=h
theorem QI{p:Prop}(h:p:=by simp[results,Tryz.results247,go_sem,y0,y1,y2,y3,y4]):p:=h
theorem QL{p:Prop}(h:p:=by first|rfl|exact drewN_drewN _ _ _):p:=h
theorem QM{p:Prop}(h:p:=by have e:cm=c':=HL.out.symm.trans yF.out;rw[e];exact(O0.out.yl c').alloc _):p:=h
theorem QN{p:Prop}(h:p:=by unfold Addr.add;split<;>simp_all):p:=h
theorem QO{p:Prop}(h:p:=by unfold YD at hu;simp;omega):p:=h
theorem QP{p:Prop}(h:p:=by simp[results,Tryz.results289,go_sem,q0,q1]):p:=h
theorem QR{p:Prop}(h:p:=by rw[JK];exact hE):p:=h
theorem QS{p:Prop}(h:p:=by first|(with_reducible assumption)|(with_reducible exact ZB _)|(with_reducible exact ZA _)|omega|(simp only[Zv,World.size_setCell,Xk];omega)):p:=h
theorem QT{p:Prop}(h:p:=by simp only[Jg,if_true,Xn,Zt]at hs;omega):p:=h
theorem Qa{p:Prop}(h:p:=by simp at hi;omega):p:=h
theorem Qb{p:Prop}(h:p:=by show w.heap.size+1≠w6.heap.size;omega):p:=h
theorem Qc{p:Prop}(h:p:=by show w.heap.size<=w6.heap.size;omega):p:=h
theorem Qd{p:Prop}(h:p:=by have:=HX.out;rw[<-HL.out,yF.out,<-HC.out];exact this):p:=h
theorem Qe{p:Prop}(h:p:=by unfold YD at hu;omega):p:=h
theorem Qf{p:Prop}(h:p:=by simp[results,Tryz.results89,go_sem,TK.wrong,TK.q,TK.c,y0,y1,y2,y3,y4,z0,z1,z2,z3,z4]):p:=h
theorem Qg{p:Prop}(h:p:=by simp[results,Tryz.results147,go_sem,y0,y1,y2,y3,y4,y5,X3]):p:=h
theorem Qh{p:Prop}(h:p:=by unfold Func.isWrapper;first|(rw[if_pos (by decide+kernel)];kernel_rfl)|(rw[if_neg (by decide+kernel)];exact⟨rfl,rfl⟩)):p:=h
theorem Qi{p:Prop}(h:p:=by show p.block≠w6.heap.size;omega):p:=h
theorem Ql{p:Prop}(h:p:=by simp[results,Tryz.results298,go_sem,q0,q1]):p:=h
theorem Qm{p:Prop}(h:p:=by have:=hI.tl;omega):p:=h
theorem Qn{p:Prop}(h:p:=by dsimp only;omega):p:=h
theorem Qo{p:Prop}(h:p:=by unfold maxLen;omega):p:=h
theorem Qp{p:Prop}(h:p:=by simp[intOf];omega):p:=h
theorem Qr{p:Prop}(h:p:=by have:=HD.out;simp only[Yj,ZI,Zb,ZN,ZG,not_or]at this;simpa using this.2.2.2.2.2.2.2.2.2.2.2.2.2.2.2.2.2.2.1):p:=h
theorem Qs{p:Prop}(h:p:=by have:=HD.out;simp only[Yj,ZI,Zb,ZN,ZG,not_or]at this;simpa using this.2.2.2.2.2.2.2.2.2.2.2.2.2.2.2.2.2.1):p:=h
theorem Qt{p:Prop}(h:p:=by have:=HD.out;simp only[Yj,ZI,Zb,ZN,ZG,not_or]at this;simpa using this.2.2.2.2.2.2.2.2.2.2.2.2.2.2.2.2.1):p:=h
theorem Q0{p:Prop}(h:p:=by have:=HD.out;simp only[Yj,ZI,Zb,ZN,ZG,not_or]at this;simpa using this.2.2.2.2.2.2.2.2.2.2.2.2.2.2.2.1):p:=h
theorem Q5{p:Prop}(h:p:=by show w.heap.size+1≠w2.heap.size;omega):p:=h
theorem Q6{p:Prop}(h:p:=by have:=HD.out;simp only[Yj,ZI,Zb,ZN,ZG,not_or]at this;simpa using this.2.2.2.2.2.2.2.2.2.2.2.2.2.2.1):p:=h
theorem Q7{p:Prop}(h:p:=by simpa using h0):p:=h
theorem Q8{p:Prop}(h:p:=by rw[Cq.out];exact V5 _ _ _ _ _ _ _ _ rfl a5 n5 k5 S n43 a8 n8 k8 rfl rfl rfl rfl rfl rfl rfl rfl w):p:=h
theorem Q9{p:Prop}(h:p:=by have:=HD.out;simp only[Yj,ZI,Zb,ZN,ZG,not_or]at this;simpa using this.2.2.2.2.2.2.2.2.2.2.2.2.2.1):p:=h
theorem Qw{p:Prop}(h:p:=by have:=LL.out k (by show k<ls.length;rw[Ur.out];exact hkl);omega):p:=h
theorem ZQ{p:Prop}(h:p:=by have:=HD.out;simp only[Yj,ZI,Zb,ZN,ZG,not_or]at this;simpa using this.2.2.2.2.2.2.2.2.2.2.2.2.1):p:=h
theorem ZZ{p:Prop}(h:p:=by have:=HD.out;simp only[Yj,ZI,Zb,ZN,ZG,not_or]at this;simpa using this.2.2.2.2.2.2.2.2.2.2.2.1):p:=h
theorem ZX{p:Prop}(h:p:=by rw[XZ];rintro rfl;simp[zH]at h):p:=h
theorem ZY{p:Prop}(h:p:=by rw[Lv.out];exact hlt):p:=h
theorem ZJ{p:Prop}(h:p:=by have:=HD.out;simp only[Yj,ZI,Zb,ZN,ZG,not_or]at this;simpa using this.2.2.2.2.2.2.2.2.2.2.1):p:=h
theorem ZK{p:Prop}(h:p:=by simp[results,Tryz.results301,go_sem,q0,q1]):p:=h
theorem ZU{p:Prop}(h:p:=by simp[results,Tryz.results193,go_sem,y0,y1,y2,y3,y4,y5,X3]):p:=h
theorem ZV{p:Prop}(h:p:=by simp[results,Tryz.results146,go_sem,y0,y1,y2,y3,y4,y5,X3]):p:=h
theorem ZW{p:Prop}(h:p:=by simp[results,Tryz.results145,go_sem,y0,y1,y2,y3,y4,y5,X3]):p:=h
theorem Zq{p:Prop}(h:p:=by simp[results,Tryz.results133,go_sem,y0,y1,y2,y3,y4,y5,X3]):p:=h
theorem Zz{p:Prop}(h:p:=by rw[HP.out];omega):p:=h
theorem Zx{p:Prop}(h:p:=by have:=HD.out;simp only[Yj,ZI,Zb,ZN,ZG,not_or]at this;simpa using this.2.2.2.2.2.2.2.2.2.1):p:=h
theorem Qvf{p:Prop}(h:p:=by have:=HD.out;simp only[Yj,ZI,Zb,ZN,ZG,not_or]at this;simpa using this.2.2.2.2.2.2.2.2.1):p:=h
theorem Qvg{p:Prop}(h:p:=by simp[results,Tryz.results89,go_sem,TK.done,TK.q,TK.c,y0,y1,y2,y3,y4,z0,z1,z2,z3,z4]):p:=h
theorem Qvh{p:Prop}(h:p:=by have:=HD.out;simp only[Yj,ZI,Zb,ZN,ZG,not_or]at this;simpa using this.2.2.2.2.2.2.2.1):p:=h
theorem Qvi{p:Prop}(h:p:=by rw[ZR (by omega)];exact h.ur i hi):p:=h
theorem Qvl{p:Prop}(h:p:=by have:=HD.out;simp only[Yj,ZI,Zb,ZN,ZG,not_or]at this;simpa using this.2.2.2.2.2.2.1):p:=h
theorem Qvm{p:Prop}(h:p:=by have:=HD.out;simp only[Yj,ZI,Zb,ZN,ZG,not_or]at this;simpa using this.2.2.2.2.2.1):p:=h
theorem Qvn{p:Prop}(h:p:=by rw[Cz.out];exact hkl):p:=h
theorem Qvo{p:Prop}(h:p:=by show _<(((w.alloc (.cells #[.int .i64 0,.int .i64 0] 34)).alloc (.cells #[.int .i64 0,.int .i64 0,.int .i64 0] 312)).drew).heap.size;simp only[Xk,Zv];omega):p:=h
theorem Qvp{p:Prop}(h:p:=by show _<(((w.alloc (.cells #[.int .i64 0,.int .i64 0,.int .i64 0] 312)).alloc (.cells #[.int .i64 0,.int .i64 0] 34)).drew).heap.size;simp only[Xk,Zv];omega):p:=h
theorem Qvr{p:Prop}(h:p:=by have:=HD.out;simp only[Yj,ZI,Zb,ZN,ZG,not_or]at this;simpa using this.2.2.2.2.1):p:=h
theorem Qvs{p:Prop}(h:p:=by have:=HD.out;simp only[Yj,ZI,Zb,ZN,ZG,not_or]at this;simpa using this.2.2.2.1):p:=h
theorem Qvt{p:Prop}(h:p:=by rw[hc 1 (by omega) (by omega)];simp):p:=h
theorem Qv0{p:Prop}(h:p:=by have:=HD.out;simp only[Yj,ZI,Zb,ZN,ZG,not_or]at this;simpa using this.2.2.1):p:=h
theorem Qv1{p:Prop}(h:p:=by have:=HD.out;simp only[Yj,ZI,Zb,ZN,ZG,not_or]at this;simpa using this.2.1):p:=h
theorem Qv2{p:Prop}(h:p:=by have:=HE.out;rw[HD.out]at this;simpa using this):p:=h
theorem Qv3{p:Prop}(h:p:=by have:=HD.out;simp only[Yj,ZI,Zb,ZN,ZG,not_or]at this;simpa using this.1):p:=h
theorem Qv4{p:Prop}(h:p:=by refine Zo.call hb6 ?_;repeat' (first|(with_reducible exact JS)|(with_reducible refine Zo.alloc ?_)|(with_reducible refine Zo.drew ?_))):p:=h
theorem Qv5{p:Prop}(h:p:=by rw[HB.out];omega):p:=h
theorem Qv6{p:Prop}(h:p:=by rw[HA.out];omega):p:=h
theorem Qv7{p:Prop}(h:p:=by rw[e];rfl):p:=h
theorem Qv8{p:Prop}(h:p:=by have:=XF.size;simp only[Xk,Zv]at this;omega):p:=h
theorem Qv9{p:Prop}(h:p:=by rw[HE.out];exact hA3.done):p:=h
theorem Qvw{p:Prop}(h:p:=by have:=hown.row k hk;omega):p:=h
theorem QAQ{p:Prop}(h:p:=by rfl):p:=h
theorem QAZ{p:Prop}(h:p:=by have:=HN.out;omega):p:=h
theorem QAX{p:Prop}(h:p:=by first|rfl|trivial):p:=h
theorem QAY{p:Prop}(h:p:=by show w.heap.size+2<=w5.heap.size;omega):p:=h
theorem QAJ{p:Prop}(h:p:=by rw[hb.block g (Array.getElem?_eq_some_iff.1 hgg).1];exact hgg):p:=h
theorem QAK{p:Prop}(h:p:=by show k<ls.length;rw[Ur.out];exact hkl):p:=h
theorem QAU{p:Prop}(h:p:=by cases e):p:=h
theorem QAV{p:Prop}(h:p:=by rw[Zv];omega):p:=h
theorem QAW{p:Prop}(h:p:=by rw[<-e1];exact jA h0 hn):p:=h
theorem QAq{p:Prop}(h:p:=by show w.heap.size<=w5.heap.size;omega):p:=h
theorem QAz{p:Prop}(h:p:=by rw[Xh];omega):p:=h
theorem QAx{p:Prop}(h:p:=by simp only[if_true,Xn,Zt]at hb;omega):p:=h
theorem QAy{p:Prop}(h:p:=by rw[hc 2 (by omega) (by omega)];simp):p:=h
theorem QAj{p:Prop}(h:p:=by rw[Ur.out];exact hlt):p:=h
theorem QAk{p:Prop}(h:p:=by show w2.heap.size<_;omega):p:=h
theorem QAu{p:Prop}(h:p:=by rw[HN.out];exact hin):p:=h
theorem QAv{p:Prop}(h:p:=by rw[hq];exact hk):p:=h
theorem QAA{p:Prop}(h:p:=by have:=hok.Us;simp only at this;omega):p:=h
theorem QAB{p:Prop}(h:p:=by have:=hI.len;simp only[Zd,Zp,Xy,List.length_nil];omega):p:=h
theorem QAC{p:Prop}(h:p:=by dsimp only at h;omega):p:=h
theorem QAD{p:Prop}(h:p:=by have:=hok.len;have:=hok.UQ;omega):p:=h
theorem QAE{p:Prop}(h:p:=by unfold maxLen at hm;omega):p:=h
theorem QAF{p:Prop}(h:p:=by simpa using h):p:=h
theorem QAG{p:Prop}(h:p:=by simp only[Jg,if_true,Xn,Zt];omega):p:=h
theorem QAH{p:Prop}(h:p:=by rw[pM.out,HXB.out.1];exact hbt):p:=h
theorem QAI{p:Prop}(h:p:=by decide+kernel):p:=h
theorem QAL{p:Prop}(h:p:=by simp[results,Tryz.results303,go_sem,q0,q1]):p:=h
theorem QAM{p:Prop}(h:p:=by simp[results,Tryz.results302,go_sem,q0,q1]):p:=h
theorem QAN{p:Prop}(h:p:=by simp[results,Tryz.results281,go_sem,z0,z1]):p:=h
theorem QAO{p:Prop}(h:p:=by simp[results,Tryz.results280,go_sem,z0,z1]):p:=h
theorem QAP{p:Prop}(h:p:=by simp[results,Tryz.results279,go_sem,z0,z1]):p:=h
theorem QAR{p:Prop}(h:p:=by simp only[Xk,Zv];omega):p:=h
theorem QAS{p:Prop}(h:p:=by rw[h.lu];decide):p:=h
theorem QAT{p:Prop}(h:p:=by obtain⟨m,hm⟩:=k2;exact DataW.trod_lt m _ _ _ hm):p:=h
theorem QAa{p:Prop}(h:p:=by obtain⟨m,hm⟩:=k1;exact DataW.trod_lt m _ _ _ hm):p:=h
theorem QAb{p:Prop}(h:p:=by obtain⟨m,hm⟩:=k0;exact DataW.trod_lt m _ _ _ hm):p:=h
theorem QAc{p:Prop}(h:p:=by rw[ne (by omega) (by omega)];exact h.ur i hi):p:=h
theorem QAd{p:Prop}(h:p:=by simp[results,Tryz.results137,go_sem,TK.done,TK.q,TK.c,y0,y1,y2,y3,y4,z0,z1,z2,z3,z4]):p:=h
theorem QAe{p:Prop}(h:p:=by show w.heap.size+1<_;omega):p:=h
theorem QAf{p:Prop}(h:p:=by rw[HF.out];simpa using hg):p:=h
theorem QAg{p:Prop}(h:p:=by rw[HE.out,if_pos HF.out];exact iZ.out.done):p:=h
theorem QAh{p:Prop}(h:p:=by have:=hb5.size;simp at this ⊢;try omega):p:=h
theorem QAi{p:Prop}(h:p:=by unfold place;split<;>omega):p:=h
theorem QAl{p:Prop}(h:p:=by simpa using hk2):p:=h
theorem QAm{p:Prop}(h:p:=by simp[results,Tryz.results13,go_sem]):p:=h
theorem QAn{p:Prop}(h:p:=by simp[Ye,hl0]):p:=h
theorem QAo{p:Prop}(h:p:=by rw[hsz];exact h.step.size):p:=h
theorem QAp{p:Prop}(h:p:=by rw[Ur.out];omega):p:=h
theorem QAr{p:Prop}(h:p:=by rw[Cq.out];exact jy _ _ _ _ _ _ _ _):p:=h
theorem QAs{p:Prop}(h:p:=by simpa using hi):p:=h
theorem QAt{p:Prop}(h:p:=by simpa using h3):p:=h
theorem QA0{p:Prop}(h:p:=by simpa using h2):p:=h
theorem QA1{p:Prop}(h:p:=by simpa using h1):p:=h
theorem QA2{p:Prop}(h:p:=by simpa using ho):p:=h
theorem QA3{p:Prop}(h:p:=by simpa using he):p:=h
theorem QA4{p:Prop}(h:p:=by rw[Zm _ _ _ _ (by intro e;exact ha (by simp[Value.ownBlock,e]))];exact hgg):p:=h
theorem QA5{p:Prop}(h:p:=by rw[HVE.out];exact hlt):p:=h
theorem QA6{p:Prop}(h:p:=by rw[HN.out];exact hcap):p:=h
theorem QA7{p:Prop}(h:p:=by rw[<-Ur.out];exact hj):p:=h
theorem QA8{p:Prop}(h:p:=by unfold Xi at h h';omega):p:=h
theorem QA9{p:Prop}(h:p:=by rw[if_neg (by omega),if_neg (by omega),if_neg a,if_neg b,if_pos h2];rfl):p:=h
theorem QAw{p:Prop}(h:p:=by rw[Cq.out];exact lkQ FJ AL LJ sF UM):p:=h
theorem QBQ{p:Prop}(h:p:=by cases h):p:=h
theorem QBZ{p:Prop}(h:p:=by rw[Ur.out];exact hkl):p:=h
theorem QBX{p:Prop}(h:p:=by simp at h):p:=h
theorem QBY{p:Prop}(h:p:=by cases he):p:=h
theorem QBJ{p:Prop}(h:p:=by simpa using hf):p:=h
theorem QBK{p:Prop}(h:p:=by simp only[Zv];omega):p:=h
theorem QBU{p:Prop}(h:p:=by rw[HN.out];exact hk):p:=h
theorem QBV{p:Prop}(h:p:=by rw[Cz.out];exact hC):p:=h
theorem QBW{p:Prop}(h:p:=by have:=hb1.size;omega):p:=h
theorem QBq{p:Prop}(h:p:=by simp at hu;subst hu;exact⟨rfl,rfl⟩):p:=h
theorem QBz{p:Prop}(h:p:=by rw[hsc];exact Zh h.step.size hsz):p:=h
theorem QBx{p:Prop}(h:p:=by rw[hS0]):p:=h
theorem QBy{p:Prop}(h:p:=by dsimp only[SS.Jt];split<;>omega):p:=h
theorem QBj{p:Prop}(h:p:=by simpa using hh):p:=h
theorem QBk{p:Prop}(h:p:=by simp[results,Tryz.results148,go_sem,y0,y1,y2,y3,y4,y5,X3]):p:=h
theorem QBu{p:Prop}(h:p:=by rw[if_neg (by omega),if_neg (by omega),if_neg a,if_pos b];rfl):p:=h
theorem QBv{p:Prop}(h:p:=by rw[HE.out,VC.qK];exact Wq.done):p:=h
theorem QBA{p:Prop}(h:p:=by rcases h.2 with⟨h8,_⟩|⟨g,cap,cur,h8,_⟩<;>simp_all[Value.ownBlock]):p:=h
theorem QBB{p:Prop}(h:p:=by simpa using k2):p:=h
theorem QBC{p:Prop}(h:p:=by simpa using hE):p:=h
theorem QBD{p:Prop}(h:p:=by simpa using h4):p:=h
theorem QBE{p:Prop}(h:p:=by simp[results,Tryz.results137,go_sem,TK.wrong,TK.q,TK.c]):p:=h
theorem QBF{p:Prop}(h:p:=by have:=H0.out;simpa using this):p:=h
theorem QBG{p:Prop}(h:p:=by first|omega|(simp only;omega)):p:=h
theorem QBH{p:Prop}(h:p:=by simpa using hown):p:=h
theorem QBI{p:Prop}(h:p:=by simp[EO,hr]):p:=h
theorem QBL{p:Prop}(h:p:=by rw[zm Kj.out];exact h2.done):p:=h
theorem QBM{p:Prop}(h:p:=by rw[zl Kj.out];exact h3.done):p:=h
theorem QBN{p:Prop}(h:p:=by rw[hb1]):p:=h
theorem QBO{p:Prop}(h:p:=by rw[<-hy,Xy,Zp,HN.out];omega):p:=h
theorem QBP{p:Prop}(h:p:=by rw[HL.out];omega):p:=h
theorem QBR{p:Prop}(h:p:=by have:=hub h;omega):p:=h
theorem QBS{p:Prop}(h:p:=by simp[results,Tryz.results205,go_sem,y0,y1,z0,z1]):p:=h
theorem QBT{p:Prop}(h:p:=by rw[if_neg (by omega),if_neg (by omega),if_pos a];rfl):p:=h
theorem QBa{p:Prop}(h:p:=by simp[Value.ownBlock]at hk):p:=h
theorem QBb{p:Prop}(h:p:=by show _<(w.alloc _).heap.size;rw[Zv];exact ZF _):p:=h
theorem QBc{p:Prop}(h:p:=by rw[hq];exact hpe):p:=h
theorem QBd{p:Prop}(h:p:=by simp[h.1]):p:=h
theorem QBe{p:Prop}(h:p:=by rw[hb.cell hP];exact h.1):p:=h
theorem QBf{p:Prop}(h:p:=by have:=iQ.out;rw[hC2]at this;simpa using this.symm):p:=h
theorem QBg{p:Prop}(h:p:=by have:=HO.out.get.1;rw[YZ,HL.out]at this;omega):p:=h
theorem QBh{p:Prop}(h:p:=by have:=HC1.out;rw[KO]at this;simpa using this.symm):p:=h
theorem QBi{p:Prop}(h:p:=by simpa using hp):p:=h
theorem QBl{p:Prop}(h:p:=by intro e;exact ha (by simp[Value.ownBlock,e])):p:=h
theorem QBm{p:Prop}(h:p:=by have:=h.p1;have:=h.p0;dsimp only[SS.leave];omega):p:=h
theorem QBn{p:Prop}(h:p:=by rw[hq];exact hp):p:=h
theorem QBo{p:Prop}(h:p:=by rw[hb.cell hB];exact h2):p:=h
theorem QBp{p:Prop}(h:p:=by rw[hb.cell hB];exact h1):p:=h
theorem QBr{p:Prop}(h:p:=by rw[KM HLR.out];omega):p:=h
theorem QBs{p:Prop}(h:p:=by rw[HN.out];exact hov):p:=h
theorem QBt{p:Prop}(h:p:=by have:=HI.out.tl;omega):p:=h
theorem QB0{p:Prop}(h:p:=by
 have h3:ct=0\/ct=1\/2<=ct:=QQ;rcases h3 with rfl|rfl|h3
 ·obtain rfl:N=1:=by have:=UN.out;omega
  go_region_held3 (fun w'=>w'.cell? ⟨P,0,none⟩=some (.slice I.a I.n I.c)/\w'.cell? ⟨P,29,none⟩=some (.int .i64 0)/\w'.cell? ⟨w.heap.size,0,none⟩=some (.pointer (some ⟨P,0,none⟩))) (first|exact⟨c0,YE,e0⟩|assumption) (fail)
  all_goals
   go_wp2;go_meet;exact⟨rfl,rfl,rfl⟩
 ·obtain rfl:N=1:=by have:=UN.out;omega
  go_region_held3 (fun w'=>w'.cell? ⟨P,0,none⟩=some (.slice I.a I.n I.c)/\w'.cell? ⟨P,29,none⟩=some (.int .i64 1)/\w'.cell? ⟨w.heap.size,0,none⟩=some (.pointer (some ⟨P,0,none⟩))) (first|exact⟨c0,YE,e0⟩|assumption) (fail)
  all_goals
   go_wp2;go_meet;exact⟨rfl,rfl,rfl⟩
 ·obtain rfl:ct=(N:Int):=by have:=UN.out;omega
  go_region_held3 (fun w'=>w'.cell? ⟨P,0,none⟩=some (.slice I.a I.n I.c)/\w'.cell? ⟨P,29,none⟩=some (.int .i64 (N:Int))/\w'.cell? ⟨w.heap.size,0,none⟩=some (.pointer (some ⟨P,0,none⟩))) (first|exact⟨c0,YE,e0⟩|assumption) (fail)
  all_goals
   go_wp2;go_meet;exact⟨rfl,rfl,rfl⟩):p:=h
theorem QB1{p:Prop}(h:p:=by
 clear hK K;refine Zl (rs:=[22]) QX QJ ?_;refine ZO (o:=⟨some 153,_,_,_,_,_⟩) rfl (fun K hK=>?_) ?_
 ·go_simp
  refine(JU J8 J8 4 (some ⟨bb1,V6,none⟩) n cb hi pb B _ _ ((kK.out.JZ (Kv ‹_›)).imp (fun q hq=>Zc hq Jl)) IW QQ hpb hn QZ).mono ?_;rintro e zX ⟨rfl,FK,Vx,mi⟩;have xJ:=Ym ‹_› Yz Yq Vx Jl;have l11:=(X9 Vx (p:=⟨J4,2,none⟩) jO).trans l10;have b11:=b10.trans (Vx.mono uj);obtain⟨lZ,kM,xZ,Oa,Mm⟩:=FK;obtain⟨-,-,k11,-⟩:=kM.three;obtain⟨KU,KY,KJ,rfl⟩:=xZ.form;dsimp only;refine hK.out _ _ xJ (fun hHeld=>?_);clear hK K;refine ZP 23 ⟨some 154,.nilCheck (.tmp 153),_,_,_,_⟩ ((.pointer (some ⟨J8,0,none⟩))) ?_;simp only[Act.put,Zj,Zk,Zu];refine ZP 24 ⟨some 155,.fieldAddr 228 (.tmp 154) 2,_,_,_,_⟩ ((.pointer (some ⟨J8,2,none⟩))) ?_;simp only[Act.put,Zj,Zk,Zu];refine Zl (rs:=[25]) QX QJ ?_;refine ZO (o:=⟨some 156,.load 26 (.tmp 155),_,_,_,_⟩) rfl (fun K hK=>?_) ?_
  ·go_simp
   refine hK.out _ _ QH (fun hHeld=>?_);clear hK K;refine Zl (rs:=[26]) QX QJ ?_;refine ZO (o:=⟨some 157,_,_,_,_,_⟩) rfl (fun K hK=>?_) ?_
   ·go_simp
    refine hK.out _ _ (Ym ‹_› Yz Yq (ZT _ _) (Cb ‹_›)) (fun hHeld=>?_);clear hK K;refine Zl (rs:=[27]) QX QJ ?_;refine ZO (o:=⟨some 22,.assign (.tmp 157),_,_,_,_⟩) rfl (fun K hK=>?_) ?_
    ·go_simp
     refine hK.out _ _ QH (fun hHeld=>?_);clear hK K;refine Ya QX ?_ _;have hbW:Below V4.heap.size V4 zX:=Kv xJ;have aC:=nQ.sl.below b11;have aB:=xZ.sl;go_wp2;go_meet;change∃us,Vs (zX.alloc (.cells #[.slice xB xu xA,.slice KU KY KJ] 26)) (.slice (some ⟨zX.heap.size,0,none⟩) 2 2) us/\Lists (zX.alloc (.cells #[.slice xB xu xA,.slice KU KY KJ] 26)) us _/\Below V4.heap.size V4 (zX.alloc (.cells #[.slice xB xu xA,.slice KU KY KJ] 26));exact⟨[.slice xB xu xA,.slice KU KY KJ],⟨_,2,2,rfl,rfl,QZ,QZ,JE _ [.slice xB xu xA,.slice KU KY KJ] _,fun h=>QBX⟩,(Lists.one (aC.below (ZT _ _))).append (Lists.one (aB.below (ZT _ _))),hbW.alloc hbW.size _⟩
    exact Zg
   exact Zg
  exact Zg
 exact Zg):p:=h
theorem QB2{p:Prop}(h:p:=by
 refine(JU J8 J8 4 (some ⟨bb1,V6,none⟩) n cb hi pb B _ _ ((kK.out.JZ (Kv ‹_›)).imp (fun q hq=>Zc hq Jl)) IW QQ hpb hn QZ).mono ?_;rintro e zX ⟨rfl,FK,Vx,mi⟩;have xJ:=Ym ‹_› Yz Yq Vx Jl;have l11:=(X9 Vx (p:=⟨J4,2,none⟩) jO).trans l10;have b11:=b10.trans (Vx.mono uj);obtain⟨lZ,kM,xZ,Oa,Mm⟩:=FK;obtain⟨-,-,k11,-⟩:=kM.three;obtain⟨KU,KY,KJ,rfl⟩:=xZ.form;dsimp only;refine hK.out _ _ xJ (fun hHeld=>?_);clear hK K;refine ZP 23 ⟨some 154,.nilCheck (.tmp 153),_,_,_,_⟩ ((.pointer (some ⟨J8,0,none⟩))) ?_;simp only[Act.put,Zj,Zk,Zu];refine ZP 24 ⟨some 155,.fieldAddr 228 (.tmp 154) 2,_,_,_,_⟩ ((.pointer (some ⟨J8,2,none⟩))) ?_;simp only[Act.put,Zj,Zk,Zu];refine Zl (rs:=[25]) QX QJ ?_;refine ZO (o:=⟨some 156,.load 26 (.tmp 155),_,_,_,_⟩) rfl (fun K hK=>?_) ?_
 ·go_simp
  refine hK.out _ _ QH (fun hHeld=>?_);clear hK K;refine Zl (rs:=[26]) QX QJ ?_;refine ZO (o:=⟨some 157,_,_,_,_,_⟩) rfl (fun K hK=>?_) ?_
  ·go_simp
   refine hK.out _ _ (Ym ‹_› Yz Yq (ZT _ _) (Cb ‹_›)) (fun hHeld=>?_);clear hK K;refine Zl (rs:=[27]) QX QJ ?_;refine ZO (o:=⟨some 22,.assign (.tmp 157),_,_,_,_⟩) rfl (fun K hK=>?_) ?_
   ·go_simp
    refine hK.out _ _ QH (fun hHeld=>?_);clear hK K;refine Ya QX ?_ _;have hbW:Below V4.heap.size V4 zX:=Kv xJ;have aC:=nQ.sl.below b11;have aB:=xZ.sl;go_wp2;go_meet;change∃us,Vs (zX.alloc (.cells #[.slice xB xu xA,.slice KU KY KJ] 26)) (.slice (some ⟨zX.heap.size,0,none⟩) 2 2) us/\Lists (zX.alloc (.cells #[.slice xB xu xA,.slice KU KY KJ] 26)) us _/\Below V4.heap.size V4 (zX.alloc (.cells #[.slice xB xu xA,.slice KU KY KJ] 26));exact⟨[.slice xB xu xA,.slice KU KY KJ],⟨_,2,2,rfl,rfl,QZ,QZ,JE _ [.slice xB xu xA,.slice KU KY KJ] _,fun h=>QBX⟩,(Lists.one (aC.below (ZT _ _))).append (Lists.one (aB.below (ZT _ _))),hbW.alloc hbW.size _⟩
   exact Zg
  exact Zg
 exact Zg):p:=h
theorem QB3{p:Prop}(h:p:=by
 rintro e zX ⟨rfl,FK,Vx,mi⟩;have xJ:=Ym ‹_› Yz Yq Vx Jl;have l11:=(X9 Vx (p:=⟨J4,2,none⟩) jO).trans l10;have b11:=b10.trans (Vx.mono uj);obtain⟨lZ,kM,xZ,Oa,Mm⟩:=FK;obtain⟨-,-,k11,-⟩:=kM.three;obtain⟨KU,KY,KJ,rfl⟩:=xZ.form;dsimp only;refine hK.out _ _ xJ (fun hHeld=>?_);clear hK K;refine ZP 23 ⟨some 154,.nilCheck (.tmp 153),_,_,_,_⟩ ((.pointer (some ⟨J8,0,none⟩))) ?_;simp only[Act.put,Zj,Zk,Zu];refine ZP 24 ⟨some 155,.fieldAddr 228 (.tmp 154) 2,_,_,_,_⟩ ((.pointer (some ⟨J8,2,none⟩))) ?_;simp only[Act.put,Zj,Zk,Zu];refine Zl (rs:=[25]) QX QJ ?_;refine ZO (o:=⟨some 156,.load 26 (.tmp 155),_,_,_,_⟩) rfl (fun K hK=>?_) ?_
 ·go_simp
  refine hK.out _ _ QH (fun hHeld=>?_);clear hK K;refine Zl (rs:=[26]) QX QJ ?_;refine ZO (o:=⟨some 157,_,_,_,_,_⟩) rfl (fun K hK=>?_) ?_
  ·go_simp
   refine hK.out _ _ (Ym ‹_› Yz Yq (ZT _ _) (Cb ‹_›)) (fun hHeld=>?_);clear hK K;refine Zl (rs:=[27]) QX QJ ?_;refine ZO (o:=⟨some 22,.assign (.tmp 157),_,_,_,_⟩) rfl (fun K hK=>?_) ?_
   ·go_simp
    refine hK.out _ _ QH (fun hHeld=>?_);clear hK K;refine Ya QX ?_ _;have hbW:Below V4.heap.size V4 zX:=Kv xJ;have aC:=nQ.sl.below b11;have aB:=xZ.sl;go_wp2;go_meet;change∃us,Vs (zX.alloc (.cells #[.slice xB xu xA,.slice KU KY KJ] 26)) (.slice (some ⟨zX.heap.size,0,none⟩) 2 2) us/\Lists (zX.alloc (.cells #[.slice xB xu xA,.slice KU KY KJ] 26)) us _/\Below V4.heap.size V4 (zX.alloc (.cells #[.slice xB xu xA,.slice KU KY KJ] 26));exact⟨[.slice xB xu xA,.slice KU KY KJ],⟨_,2,2,rfl,rfl,QZ,QZ,JE _ [.slice xB xu xA,.slice KU KY KJ] _,fun h=>QBX⟩,(Lists.one (aC.below (ZT _ _))).append (Lists.one (aB.below (ZT _ _))),hbW.alloc hbW.size _⟩
   exact Zg
  exact Zg
 exact Zg):p:=h
theorem QB4{p:Prop}(h:p:=by
 clear HI;by_cases h0:c.c=0
 ·have z0:(c.c==0)=true:=by simpa using h0
  have CS:=fun w=>UA c w
  have e1:=jk h0;obtain⟨c',hc'⟩:∃c',PG c=c':=⟨_,rfl⟩;rw[hc']at CS e1;have hS:∀(w:World),Calls Tryz.prog 247 #[.agg #[.int .i64 c.a,.int .i64 c.b,.int .i64 c.c,.int .i64 c.d,.int .i64 c.e]] w (fun e w'=>e=.returned (.tuple #[.agg #[.int .i64 c'.a,.int .i64 c'.b,.int .i64 c'.c,.int .i64 c'.d,.int .i64 c'.e],.bool (zH c.d).isSome])/\Below w.heap.size w w'):=fun w=>by
   have:=CS w;unfold C5.v at this;exact this
  have hno:zH c.d=none->c'=c:=fun hn=>QAW
  have HS:=Zy hS;have yF:=Zy e1;have Kj:=Zy hno;clear CS hS e1 hc' hno h0;rcases hk:zH c.d with _|pq
  ·rw[hk]at HS
   have bg:(none:Option (Int×Int)).isSome=false:=rfl;have HK:=Zy hk;clear hk;go_wp2_with (go_at_call 247;refine(HS.out _).mono ?_;rintro e w8 ⟨rfl,XF⟩;have qY:=Zy XF;clear XF)
   go_meet;exact⟨rfl,⟨us,Qu⟩,(Yx.of qY.out).trans (Yx.of (ZT _ _))⟩
  ·rw[hk]at HS
   have bg:(some pq:Option (Int×Int)).isSome=true:=rfl;clear hk;go_wp2_with (go_at_call 247;refine(HS.out _).mono ?_;rintro e w8 ⟨rfl,XF⟩;have JY:=HX.out.to XF;have g29:=JY.YE;have g30:=JY.UB;have g31:=JY.c31;have g32:=JY.c32;have g33:=JY.Kr;have k29:=JY.free 29;have sM:=JY.free 30;have sI:=JY.free 31;have k32:=JY.free 32;have k33:=JY.free 33;have Mi:=JY.lt;have O0:=Zy JY;have qY:=Zy XF;clear XF JY)
   go_meet;exact⟨rfl,⟨_,QM⟩,((Yx.of qY.out).trans (Yx.setCells c'.cells)).trans (Yx.of (ZT _ _))⟩
 ·have n0:(c.c==0)=false:=by simpa using h0
  have e1:=jv h0;have yF:=Zy e1;clear h0 e1;go_wp2;go_meet;exact⟨rfl,⟨us,Qd⟩,Yx.refl _ _⟩):p:=h
theorem QB5{p:Prop}(h:p:=by
 have xJ:=Ym ‹_› Yz Yq Vx Jl;have l11:=(X9 Vx (p:=⟨J4,2,none⟩) jO).trans l10;have b11:=b10.trans (Vx.mono uj);obtain⟨lZ,kM,xZ,Oa,Mm⟩:=FK;obtain⟨-,-,k11,-⟩:=kM.three;obtain⟨KU,KY,KJ,rfl⟩:=xZ.form;dsimp only;refine hK.out _ _ xJ (fun hHeld=>?_);clear hK K;refine ZP 23 ⟨some 154,.nilCheck (.tmp 153),_,_,_,_⟩ ((.pointer (some ⟨J8,0,none⟩))) ?_;simp only[Act.put,Zj,Zk,Zu];refine ZP 24 ⟨some 155,.fieldAddr 228 (.tmp 154) 2,_,_,_,_⟩ ((.pointer (some ⟨J8,2,none⟩))) ?_;simp only[Act.put,Zj,Zk,Zu];refine Zl (rs:=[25]) QX QJ ?_;refine ZO (o:=⟨some 156,.load 26 (.tmp 155),_,_,_,_⟩) rfl (fun K hK=>?_) ?_
 ·go_simp
  refine hK.out _ _ QH (fun hHeld=>?_);clear hK K;refine Zl (rs:=[26]) QX QJ ?_;refine ZO (o:=⟨some 157,_,_,_,_,_⟩) rfl (fun K hK=>?_) ?_
  ·go_simp
   refine hK.out _ _ (Ym ‹_› Yz Yq (ZT _ _) (Cb ‹_›)) (fun hHeld=>?_);clear hK K;refine Zl (rs:=[27]) QX QJ ?_;refine ZO (o:=⟨some 22,.assign (.tmp 157),_,_,_,_⟩) rfl (fun K hK=>?_) ?_
   ·go_simp
    refine hK.out _ _ QH (fun hHeld=>?_);clear hK K;refine Ya QX ?_ _;have hbW:Below V4.heap.size V4 zX:=Kv xJ;have aC:=nQ.sl.below b11;have aB:=xZ.sl;go_wp2;go_meet;change∃us,Vs (zX.alloc (.cells #[.slice xB xu xA,.slice KU KY KJ] 26)) (.slice (some ⟨zX.heap.size,0,none⟩) 2 2) us/\Lists (zX.alloc (.cells #[.slice xB xu xA,.slice KU KY KJ] 26)) us _/\Below V4.heap.size V4 (zX.alloc (.cells #[.slice xB xu xA,.slice KU KY KJ] 26));exact⟨[.slice xB xu xA,.slice KU KY KJ],⟨_,2,2,rfl,rfl,QZ,QZ,JE _ [.slice xB xu xA,.slice KU KY KJ] _,fun h=>QBX⟩,(Lists.one (aC.below (ZT _ _))).append (Lists.one (aB.below (ZT _ _))),hbW.alloc hbW.size _⟩
   exact Zg
  exact Zg
 exact Zg):p:=h
theorem QB6{p:Prop}(h:p:=by
 have l11:=(X9 Vx (p:=⟨J4,2,none⟩) jO).trans l10;have b11:=b10.trans (Vx.mono uj);obtain⟨lZ,kM,xZ,Oa,Mm⟩:=FK;obtain⟨-,-,k11,-⟩:=kM.three;obtain⟨KU,KY,KJ,rfl⟩:=xZ.form;dsimp only;refine hK.out _ _ xJ (fun hHeld=>?_);clear hK K;refine ZP 23 ⟨some 154,.nilCheck (.tmp 153),_,_,_,_⟩ ((.pointer (some ⟨J8,0,none⟩))) ?_;simp only[Act.put,Zj,Zk,Zu];refine ZP 24 ⟨some 155,.fieldAddr 228 (.tmp 154) 2,_,_,_,_⟩ ((.pointer (some ⟨J8,2,none⟩))) ?_;simp only[Act.put,Zj,Zk,Zu];refine Zl (rs:=[25]) QX QJ ?_;refine ZO (o:=⟨some 156,.load 26 (.tmp 155),_,_,_,_⟩) rfl (fun K hK=>?_) ?_
 ·go_simp
  refine hK.out _ _ QH (fun hHeld=>?_);clear hK K;refine Zl (rs:=[26]) QX QJ ?_;refine ZO (o:=⟨some 157,_,_,_,_,_⟩) rfl (fun K hK=>?_) ?_
  ·go_simp
   refine hK.out _ _ (Ym ‹_› Yz Yq (ZT _ _) (Cb ‹_›)) (fun hHeld=>?_);clear hK K;refine Zl (rs:=[27]) QX QJ ?_;refine ZO (o:=⟨some 22,.assign (.tmp 157),_,_,_,_⟩) rfl (fun K hK=>?_) ?_
   ·go_simp
    refine hK.out _ _ QH (fun hHeld=>?_);clear hK K;refine Ya QX ?_ _;have hbW:Below V4.heap.size V4 zX:=Kv xJ;have aC:=nQ.sl.below b11;have aB:=xZ.sl;go_wp2;go_meet;change∃us,Vs (zX.alloc (.cells #[.slice xB xu xA,.slice KU KY KJ] 26)) (.slice (some ⟨zX.heap.size,0,none⟩) 2 2) us/\Lists (zX.alloc (.cells #[.slice xB xu xA,.slice KU KY KJ] 26)) us _/\Below V4.heap.size V4 (zX.alloc (.cells #[.slice xB xu xA,.slice KU KY KJ] 26));exact⟨[.slice xB xu xA,.slice KU KY KJ],⟨_,2,2,rfl,rfl,QZ,QZ,JE _ [.slice xB xu xA,.slice KU KY KJ] _,fun h=>QBX⟩,(Lists.one (aC.below (ZT _ _))).append (Lists.one (aB.below (ZT _ _))),hbW.alloc hbW.size _⟩
   exact Zg
  exact Zg
 exact Zg):p:=h
theorem QB7{p:Prop}(h:p:=by
 refine hK.out _ _ QH (fun hHeld=>?_);clear hK K;refine Zl (rs:=[26]) QX QJ ?_;refine ZO (o:=⟨some 157,_,_,_,_,_⟩) rfl (fun K hK=>?_) ?_
 ·go_simp
  refine hK.out _ _ (Ym ‹_› Yz Yq (ZT _ _) (Cb ‹_›)) (fun hHeld=>?_);clear hK K;refine Zl (rs:=[27]) QX QJ ?_;refine ZO (o:=⟨some 22,.assign (.tmp 157),_,_,_,_⟩) rfl (fun K hK=>?_) ?_
  ·go_simp
   refine hK.out _ _ QH (fun hHeld=>?_);clear hK K;refine Ya QX ?_ _;have hbW:Below V4.heap.size V4 zX:=Kv xJ;have aC:=nQ.sl.below b11;have aB:=xZ.sl;go_wp2;go_meet;change∃us,Vs (zX.alloc (.cells #[.slice xB xu xA,.slice KU KY KJ] 26)) (.slice (some ⟨zX.heap.size,0,none⟩) 2 2) us/\Lists (zX.alloc (.cells #[.slice xB xu xA,.slice KU KY KJ] 26)) us _/\Below V4.heap.size V4 (zX.alloc (.cells #[.slice xB xu xA,.slice KU KY KJ] 26));exact⟨[.slice xB xu xA,.slice KU KY KJ],⟨_,2,2,rfl,rfl,QZ,QZ,JE _ [.slice xB xu xA,.slice KU KY KJ] _,fun h=>QBX⟩,(Lists.one (aC.below (ZT _ _))).append (Lists.one (aB.below (ZT _ _))),hbW.alloc hbW.size _⟩
  exact Zg
 exact Zg):p:=h
theorem QB8{p:Prop}(h:p:=by
 have b11:=b10.trans (Vx.mono uj);obtain⟨lZ,kM,xZ,Oa,Mm⟩:=FK;obtain⟨-,-,k11,-⟩:=kM.three;obtain⟨KU,KY,KJ,rfl⟩:=xZ.form;dsimp only;refine hK.out _ _ xJ (fun hHeld=>?_);clear hK K;refine ZP 23 ⟨some 154,.nilCheck (.tmp 153),_,_,_,_⟩ ((.pointer (some ⟨J8,0,none⟩))) ?_;simp only[Act.put,Zj,Zk,Zu];refine ZP 24 ⟨some 155,.fieldAddr 228 (.tmp 154) 2,_,_,_,_⟩ ((.pointer (some ⟨J8,2,none⟩))) ?_;simp only[Act.put,Zj,Zk,Zu];refine Zl (rs:=[25]) QX QJ ?_;refine ZO (o:=⟨some 156,.load 26 (.tmp 155),_,_,_,_⟩) rfl (fun K hK=>?_) ?_
 ·go_simp
  refine hK.out _ _ QH (fun hHeld=>?_);clear hK K;refine Zl (rs:=[26]) QX QJ ?_;refine ZO (o:=⟨some 157,_,_,_,_,_⟩) rfl (fun K hK=>?_) ?_
  ·go_simp
   refine hK.out _ _ (Ym ‹_› Yz Yq (ZT _ _) (Cb ‹_›)) (fun hHeld=>?_);clear hK K;refine Zl (rs:=[27]) QX QJ ?_;refine ZO (o:=⟨some 22,.assign (.tmp 157),_,_,_,_⟩) rfl (fun K hK=>?_) ?_
   ·go_simp
    refine hK.out _ _ QH (fun hHeld=>?_);clear hK K;refine Ya QX ?_ _;have hbW:Below V4.heap.size V4 zX:=Kv xJ;have aC:=nQ.sl.below b11;have aB:=xZ.sl;go_wp2;go_meet;change∃us,Vs (zX.alloc (.cells #[.slice xB xu xA,.slice KU KY KJ] 26)) (.slice (some ⟨zX.heap.size,0,none⟩) 2 2) us/\Lists (zX.alloc (.cells #[.slice xB xu xA,.slice KU KY KJ] 26)) us _/\Below V4.heap.size V4 (zX.alloc (.cells #[.slice xB xu xA,.slice KU KY KJ] 26));exact⟨[.slice xB xu xA,.slice KU KY KJ],⟨_,2,2,rfl,rfl,QZ,QZ,JE _ [.slice xB xu xA,.slice KU KY KJ] _,fun h=>QBX⟩,(Lists.one (aC.below (ZT _ _))).append (Lists.one (aB.below (ZT _ _))),hbW.alloc hbW.size _⟩
   exact Zg
  exact Zg
 exact Zg):p:=h
theorem QB9{p:Prop}(h:p:=by
 obtain⟨lZ,kM,xZ,Oa,Mm⟩:=FK;obtain⟨-,-,k11,-⟩:=kM.three;obtain⟨KU,KY,KJ,rfl⟩:=xZ.form;dsimp only;refine hK.out _ _ xJ (fun hHeld=>?_);clear hK K;refine ZP 23 ⟨some 154,.nilCheck (.tmp 153),_,_,_,_⟩ ((.pointer (some ⟨J8,0,none⟩))) ?_;simp only[Act.put,Zj,Zk,Zu];refine ZP 24 ⟨some 155,.fieldAddr 228 (.tmp 154) 2,_,_,_,_⟩ ((.pointer (some ⟨J8,2,none⟩))) ?_;simp only[Act.put,Zj,Zk,Zu];refine Zl (rs:=[25]) QX QJ ?_;refine ZO (o:=⟨some 156,.load 26 (.tmp 155),_,_,_,_⟩) rfl (fun K hK=>?_) ?_
 ·go_simp
  refine hK.out _ _ QH (fun hHeld=>?_);clear hK K;refine Zl (rs:=[26]) QX QJ ?_;refine ZO (o:=⟨some 157,_,_,_,_,_⟩) rfl (fun K hK=>?_) ?_
  ·go_simp
   refine hK.out _ _ (Ym ‹_› Yz Yq (ZT _ _) (Cb ‹_›)) (fun hHeld=>?_);clear hK K;refine Zl (rs:=[27]) QX QJ ?_;refine ZO (o:=⟨some 22,.assign (.tmp 157),_,_,_,_⟩) rfl (fun K hK=>?_) ?_
   ·go_simp
    refine hK.out _ _ QH (fun hHeld=>?_);clear hK K;refine Ya QX ?_ _;have hbW:Below V4.heap.size V4 zX:=Kv xJ;have aC:=nQ.sl.below b11;have aB:=xZ.sl;go_wp2;go_meet;change∃us,Vs (zX.alloc (.cells #[.slice xB xu xA,.slice KU KY KJ] 26)) (.slice (some ⟨zX.heap.size,0,none⟩) 2 2) us/\Lists (zX.alloc (.cells #[.slice xB xu xA,.slice KU KY KJ] 26)) us _/\Below V4.heap.size V4 (zX.alloc (.cells #[.slice xB xu xA,.slice KU KY KJ] 26));exact⟨[.slice xB xu xA,.slice KU KY KJ],⟨_,2,2,rfl,rfl,QZ,QZ,JE _ [.slice xB xu xA,.slice KU KY KJ] _,fun h=>QBX⟩,(Lists.one (aC.below (ZT _ _))).append (Lists.one (aB.below (ZT _ _))),hbW.alloc hbW.size _⟩
   exact Zg
  exact Zg
 exact Zg):p:=h
theorem QBw{p:Prop}(h:p:=by
 clear hK K;refine Zl (rs:=[26]) QX QJ ?_;refine ZO (o:=⟨some 157,_,_,_,_,_⟩) rfl (fun K hK=>?_) ?_
 ·go_simp
  refine hK.out _ _ (Ym ‹_› Yz Yq (ZT _ _) (Cb ‹_›)) (fun hHeld=>?_);clear hK K;refine Zl (rs:=[27]) QX QJ ?_;refine ZO (o:=⟨some 22,.assign (.tmp 157),_,_,_,_⟩) rfl (fun K hK=>?_) ?_
  ·go_simp
   refine hK.out _ _ QH (fun hHeld=>?_);clear hK K;refine Ya QX ?_ _;have hbW:Below V4.heap.size V4 zX:=Kv xJ;have aC:=nQ.sl.below b11;have aB:=xZ.sl;go_wp2;go_meet;change∃us,Vs (zX.alloc (.cells #[.slice xB xu xA,.slice KU KY KJ] 26)) (.slice (some ⟨zX.heap.size,0,none⟩) 2 2) us/\Lists (zX.alloc (.cells #[.slice xB xu xA,.slice KU KY KJ] 26)) us _/\Below V4.heap.size V4 (zX.alloc (.cells #[.slice xB xu xA,.slice KU KY KJ] 26));exact⟨[.slice xB xu xA,.slice KU KY KJ],⟨_,2,2,rfl,rfl,QZ,QZ,JE _ [.slice xB xu xA,.slice KU KY KJ] _,fun h=>QBX⟩,(Lists.one (aC.below (ZT _ _))).append (Lists.one (aB.below (ZT _ _))),hbW.alloc hbW.size _⟩
  exact Zg
 exact Zg):p:=h
theorem QCQ{p:Prop}(h:p:=by
 obtain⟨-,-,k11,-⟩:=kM.three;obtain⟨KU,KY,KJ,rfl⟩:=xZ.form;dsimp only;refine hK.out _ _ xJ (fun hHeld=>?_);clear hK K;refine ZP 23 ⟨some 154,.nilCheck (.tmp 153),_,_,_,_⟩ ((.pointer (some ⟨J8,0,none⟩))) ?_;simp only[Act.put,Zj,Zk,Zu];refine ZP 24 ⟨some 155,.fieldAddr 228 (.tmp 154) 2,_,_,_,_⟩ ((.pointer (some ⟨J8,2,none⟩))) ?_;simp only[Act.put,Zj,Zk,Zu];refine Zl (rs:=[25]) QX QJ ?_;refine ZO (o:=⟨some 156,.load 26 (.tmp 155),_,_,_,_⟩) rfl (fun K hK=>?_) ?_
 ·go_simp
  refine hK.out _ _ QH (fun hHeld=>?_);clear hK K;refine Zl (rs:=[26]) QX QJ ?_;refine ZO (o:=⟨some 157,_,_,_,_,_⟩) rfl (fun K hK=>?_) ?_
  ·go_simp
   refine hK.out _ _ (Ym ‹_› Yz Yq (ZT _ _) (Cb ‹_›)) (fun hHeld=>?_);clear hK K;refine Zl (rs:=[27]) QX QJ ?_;refine ZO (o:=⟨some 22,.assign (.tmp 157),_,_,_,_⟩) rfl (fun K hK=>?_) ?_
   ·go_simp
    refine hK.out _ _ QH (fun hHeld=>?_);clear hK K;refine Ya QX ?_ _;have hbW:Below V4.heap.size V4 zX:=Kv xJ;have aC:=nQ.sl.below b11;have aB:=xZ.sl;go_wp2;go_meet;change∃us,Vs (zX.alloc (.cells #[.slice xB xu xA,.slice KU KY KJ] 26)) (.slice (some ⟨zX.heap.size,0,none⟩) 2 2) us/\Lists (zX.alloc (.cells #[.slice xB xu xA,.slice KU KY KJ] 26)) us _/\Below V4.heap.size V4 (zX.alloc (.cells #[.slice xB xu xA,.slice KU KY KJ] 26));exact⟨[.slice xB xu xA,.slice KU KY KJ],⟨_,2,2,rfl,rfl,QZ,QZ,JE _ [.slice xB xu xA,.slice KU KY KJ] _,fun h=>QBX⟩,(Lists.one (aC.below (ZT _ _))).append (Lists.one (aB.below (ZT _ _))),hbW.alloc hbW.size _⟩
   exact Zg
  exact Zg
 exact Zg):p:=h
theorem QCZ{p:Prop}(h:p:=by
 refine Zl (rs:=[26]) QX QJ ?_;refine ZO (o:=⟨some 157,_,_,_,_,_⟩) rfl (fun K hK=>?_) ?_
 ·go_simp
  refine hK.out _ _ (Ym ‹_› Yz Yq (ZT _ _) (Cb ‹_›)) (fun hHeld=>?_);clear hK K;refine Zl (rs:=[27]) QX QJ ?_;refine ZO (o:=⟨some 22,.assign (.tmp 157),_,_,_,_⟩) rfl (fun K hK=>?_) ?_
  ·go_simp
   refine hK.out _ _ QH (fun hHeld=>?_);clear hK K;refine Ya QX ?_ _;have hbW:Below V4.heap.size V4 zX:=Kv xJ;have aC:=nQ.sl.below b11;have aB:=xZ.sl;go_wp2;go_meet;change∃us,Vs (zX.alloc (.cells #[.slice xB xu xA,.slice KU KY KJ] 26)) (.slice (some ⟨zX.heap.size,0,none⟩) 2 2) us/\Lists (zX.alloc (.cells #[.slice xB xu xA,.slice KU KY KJ] 26)) us _/\Below V4.heap.size V4 (zX.alloc (.cells #[.slice xB xu xA,.slice KU KY KJ] 26));exact⟨[.slice xB xu xA,.slice KU KY KJ],⟨_,2,2,rfl,rfl,QZ,QZ,JE _ [.slice xB xu xA,.slice KU KY KJ] _,fun h=>QBX⟩,(Lists.one (aC.below (ZT _ _))).append (Lists.one (aB.below (ZT _ _))),hbW.alloc hbW.size _⟩
  exact Zg
 exact Zg):p:=h
theorem QCX{p:Prop}(h:p:=by
 obtain⟨KU,KY,KJ,rfl⟩:=xZ.form;dsimp only;refine hK.out _ _ xJ (fun hHeld=>?_);clear hK K;refine ZP 23 ⟨some 154,.nilCheck (.tmp 153),_,_,_,_⟩ ((.pointer (some ⟨J8,0,none⟩))) ?_;simp only[Act.put,Zj,Zk,Zu];refine ZP 24 ⟨some 155,.fieldAddr 228 (.tmp 154) 2,_,_,_,_⟩ ((.pointer (some ⟨J8,2,none⟩))) ?_;simp only[Act.put,Zj,Zk,Zu];refine Zl (rs:=[25]) QX QJ ?_;refine ZO (o:=⟨some 156,.load 26 (.tmp 155),_,_,_,_⟩) rfl (fun K hK=>?_) ?_
 ·go_simp
  refine hK.out _ _ QH (fun hHeld=>?_);clear hK K;refine Zl (rs:=[26]) QX QJ ?_;refine ZO (o:=⟨some 157,_,_,_,_,_⟩) rfl (fun K hK=>?_) ?_
  ·go_simp
   refine hK.out _ _ (Ym ‹_› Yz Yq (ZT _ _) (Cb ‹_›)) (fun hHeld=>?_);clear hK K;refine Zl (rs:=[27]) QX QJ ?_;refine ZO (o:=⟨some 22,.assign (.tmp 157),_,_,_,_⟩) rfl (fun K hK=>?_) ?_
   ·go_simp
    refine hK.out _ _ QH (fun hHeld=>?_);clear hK K;refine Ya QX ?_ _;have hbW:Below V4.heap.size V4 zX:=Kv xJ;have aC:=nQ.sl.below b11;have aB:=xZ.sl;go_wp2;go_meet;change∃us,Vs (zX.alloc (.cells #[.slice xB xu xA,.slice KU KY KJ] 26)) (.slice (some ⟨zX.heap.size,0,none⟩) 2 2) us/\Lists (zX.alloc (.cells #[.slice xB xu xA,.slice KU KY KJ] 26)) us _/\Below V4.heap.size V4 (zX.alloc (.cells #[.slice xB xu xA,.slice KU KY KJ] 26));exact⟨[.slice xB xu xA,.slice KU KY KJ],⟨_,2,2,rfl,rfl,QZ,QZ,JE _ [.slice xB xu xA,.slice KU KY KJ] _,fun h=>QBX⟩,(Lists.one (aC.below (ZT _ _))).append (Lists.one (aB.below (ZT _ _))),hbW.alloc hbW.size _⟩
   exact Zg
  exact Zg
 exact Zg):p:=h
theorem QCY{p:Prop}(h:p:=by
 refine Zl (rs:=[25]) QX QJ ?_;refine ZO (o:=⟨some 156,.load 26 (.tmp 155),_,_,_,_⟩) rfl (fun K hK=>?_) ?_
 ·go_simp
  refine hK.out _ _ QH (fun hHeld=>?_);clear hK K;refine Zl (rs:=[26]) QX QJ ?_;refine ZO (o:=⟨some 157,_,_,_,_,_⟩) rfl (fun K hK=>?_) ?_
  ·go_simp
   refine hK.out _ _ (Ym ‹_› Yz Yq (ZT _ _) (Cb ‹_›)) (fun hHeld=>?_);clear hK K;refine Zl (rs:=[27]) QX QJ ?_;refine ZO (o:=⟨some 22,.assign (.tmp 157),_,_,_,_⟩) rfl (fun K hK=>?_) ?_
   ·go_simp
    refine hK.out _ _ QH (fun hHeld=>?_);clear hK K;refine Ya QX ?_ _;have hbW:Below V4.heap.size V4 zX:=Kv xJ;have aC:=nQ.sl.below b11;have aB:=xZ.sl;go_wp2;go_meet;change∃us,Vs (zX.alloc (.cells #[.slice xB xu xA,.slice KU KY KJ] 26)) (.slice (some ⟨zX.heap.size,0,none⟩) 2 2) us/\Lists (zX.alloc (.cells #[.slice xB xu xA,.slice KU KY KJ] 26)) us _/\Below V4.heap.size V4 (zX.alloc (.cells #[.slice xB xu xA,.slice KU KY KJ] 26));exact⟨[.slice xB xu xA,.slice KU KY KJ],⟨_,2,2,rfl,rfl,QZ,QZ,JE _ [.slice xB xu xA,.slice KU KY KJ] _,fun h=>QBX⟩,(Lists.one (aC.below (ZT _ _))).append (Lists.one (aB.below (ZT _ _))),hbW.alloc hbW.size _⟩
   exact Zg
  exact Zg
 exact Zg):p:=h
theorem QCJ{p:Prop}(h:p:=by
 have CS:=fun w=>UA c w
 have e1:=jk h0;obtain⟨c',hc'⟩:∃c',PG c=c':=⟨_,rfl⟩;rw[hc']at CS e1;have hS:∀(w:World),Calls Tryz.prog 247 #[.agg #[.int .i64 c.a,.int .i64 c.b,.int .i64 c.c,.int .i64 c.d,.int .i64 c.e]] w (fun e w'=>e=.returned (.tuple #[.agg #[.int .i64 c'.a,.int .i64 c'.b,.int .i64 c'.c,.int .i64 c'.d,.int .i64 c'.e],.bool (zH c.d).isSome])/\Below w.heap.size w w'):=fun w=>by
  have:=CS w;unfold C5.v at this;exact this
 have hno:zH c.d=none->c'=c:=fun hn=>QAW
 have HS:=Zy hS;have yF:=Zy e1;have Kj:=Zy hno;clear CS hS e1 hc' hno h0;rcases hk:zH c.d with _|pq
 ·rw[hk]at HS
  have bg:(none:Option (Int×Int)).isSome=false:=rfl;have HK:=Zy hk;clear hk;go_wp2_with (go_at_call 247;refine(HS.out _).mono ?_;rintro e w8 ⟨rfl,XF⟩;have qY:=Zy XF;clear XF)
  go_meet;exact⟨rfl,⟨us,Qu⟩,(Yx.of qY.out).trans (Yx.of (ZT _ _))⟩
 ·rw[hk]at HS
  have bg:(some pq:Option (Int×Int)).isSome=true:=rfl;clear hk;go_wp2_with (go_at_call 247;refine(HS.out _).mono ?_;rintro e w8 ⟨rfl,XF⟩;have JY:=HX.out.to XF;have g29:=JY.YE;have g30:=JY.UB;have g31:=JY.c31;have g32:=JY.c32;have g33:=JY.Kr;have k29:=JY.free 29;have sM:=JY.free 30;have sI:=JY.free 31;have k32:=JY.free 32;have k33:=JY.free 33;have Mi:=JY.lt;have O0:=Zy JY;have qY:=Zy XF;clear XF JY)
  go_meet;exact⟨rfl,⟨_,QM⟩,((Yx.of qY.out).trans (Yx.setCells c'.cells)).trans (Yx.of (ZT _ _))⟩):p:=h
theorem QCK{p:Prop}(h:p:=by
 dsimp only;refine hK.out _ _ xJ (fun hHeld=>?_);clear hK K;refine ZP 23 ⟨some 154,.nilCheck (.tmp 153),_,_,_,_⟩ ((.pointer (some ⟨J8,0,none⟩))) ?_;simp only[Act.put,Zj,Zk,Zu];refine ZP 24 ⟨some 155,.fieldAddr 228 (.tmp 154) 2,_,_,_,_⟩ ((.pointer (some ⟨J8,2,none⟩))) ?_;simp only[Act.put,Zj,Zk,Zu];refine Zl (rs:=[25]) QX QJ ?_;refine ZO (o:=⟨some 156,.load 26 (.tmp 155),_,_,_,_⟩) rfl (fun K hK=>?_) ?_
 ·go_simp
  refine hK.out _ _ QH (fun hHeld=>?_);clear hK K;refine Zl (rs:=[26]) QX QJ ?_;refine ZO (o:=⟨some 157,_,_,_,_,_⟩) rfl (fun K hK=>?_) ?_
  ·go_simp
   refine hK.out _ _ (Ym ‹_› Yz Yq (ZT _ _) (Cb ‹_›)) (fun hHeld=>?_);clear hK K;refine Zl (rs:=[27]) QX QJ ?_;refine ZO (o:=⟨some 22,.assign (.tmp 157),_,_,_,_⟩) rfl (fun K hK=>?_) ?_
   ·go_simp
    refine hK.out _ _ QH (fun hHeld=>?_);clear hK K;refine Ya QX ?_ _;have hbW:Below V4.heap.size V4 zX:=Kv xJ;have aC:=nQ.sl.below b11;have aB:=xZ.sl;go_wp2;go_meet;change∃us,Vs (zX.alloc (.cells #[.slice xB xu xA,.slice KU KY KJ] 26)) (.slice (some ⟨zX.heap.size,0,none⟩) 2 2) us/\Lists (zX.alloc (.cells #[.slice xB xu xA,.slice KU KY KJ] 26)) us _/\Below V4.heap.size V4 (zX.alloc (.cells #[.slice xB xu xA,.slice KU KY KJ] 26));exact⟨[.slice xB xu xA,.slice KU KY KJ],⟨_,2,2,rfl,rfl,QZ,QZ,JE _ [.slice xB xu xA,.slice KU KY KJ] _,fun h=>QBX⟩,(Lists.one (aC.below (ZT _ _))).append (Lists.one (aB.below (ZT _ _))),hbW.alloc hbW.size _⟩
   exact Zg
  exact Zg
 exact Zg):p:=h
theorem QCU{p:Prop}(h:p:=by
 have e1:=jk h0;obtain⟨c',hc'⟩:∃c',PG c=c':=⟨_,rfl⟩;rw[hc']at CS e1;have hS:∀(w:World),Calls Tryz.prog 247 #[.agg #[.int .i64 c.a,.int .i64 c.b,.int .i64 c.c,.int .i64 c.d,.int .i64 c.e]] w (fun e w'=>e=.returned (.tuple #[.agg #[.int .i64 c'.a,.int .i64 c'.b,.int .i64 c'.c,.int .i64 c'.d,.int .i64 c'.e],.bool (zH c.d).isSome])/\Below w.heap.size w w'):=fun w=>by
  have:=CS w;unfold C5.v at this;exact this
 have hno:zH c.d=none->c'=c:=fun hn=>QAW
 have HS:=Zy hS;have yF:=Zy e1;have Kj:=Zy hno;clear CS hS e1 hc' hno h0;rcases hk:zH c.d with _|pq
 ·rw[hk]at HS
  have bg:(none:Option (Int×Int)).isSome=false:=rfl;have HK:=Zy hk;clear hk;go_wp2_with (go_at_call 247;refine(HS.out _).mono ?_;rintro e w8 ⟨rfl,XF⟩;have qY:=Zy XF;clear XF)
  go_meet;exact⟨rfl,⟨us,Qu⟩,(Yx.of qY.out).trans (Yx.of (ZT _ _))⟩
 ·rw[hk]at HS
  have bg:(some pq:Option (Int×Int)).isSome=true:=rfl;clear hk;go_wp2_with (go_at_call 247;refine(HS.out _).mono ?_;rintro e w8 ⟨rfl,XF⟩;have JY:=HX.out.to XF;have g29:=JY.YE;have g30:=JY.UB;have g31:=JY.c31;have g32:=JY.c32;have g33:=JY.Kr;have k29:=JY.free 29;have sM:=JY.free 30;have sI:=JY.free 31;have k32:=JY.free 32;have k33:=JY.free 33;have Mi:=JY.lt;have O0:=Zy JY;have qY:=Zy XF;clear XF JY)
  go_meet;exact⟨rfl,⟨_,QM⟩,((Yx.of qY.out).trans (Yx.setCells c'.cells)).trans (Yx.of (ZT _ _))⟩):p:=h
theorem QCV{p:Prop}(h:p:=by
 refine ZO (o:=⟨some 157,_,_,_,_,_⟩) rfl (fun K hK=>?_) ?_
 ·go_simp
  refine hK.out _ _ (Ym ‹_› Yz Yq (ZT _ _) (Cb ‹_›)) (fun hHeld=>?_);clear hK K;refine Zl (rs:=[27]) QX QJ ?_;refine ZO (o:=⟨some 22,.assign (.tmp 157),_,_,_,_⟩) rfl (fun K hK=>?_) ?_
  ·go_simp
   refine hK.out _ _ QH (fun hHeld=>?_);clear hK K;refine Ya QX ?_ _;have hbW:Below V4.heap.size V4 zX:=Kv xJ;have aC:=nQ.sl.below b11;have aB:=xZ.sl;go_wp2;go_meet;change∃us,Vs (zX.alloc (.cells #[.slice xB xu xA,.slice KU KY KJ] 26)) (.slice (some ⟨zX.heap.size,0,none⟩) 2 2) us/\Lists (zX.alloc (.cells #[.slice xB xu xA,.slice KU KY KJ] 26)) us _/\Below V4.heap.size V4 (zX.alloc (.cells #[.slice xB xu xA,.slice KU KY KJ] 26));exact⟨[.slice xB xu xA,.slice KU KY KJ],⟨_,2,2,rfl,rfl,QZ,QZ,JE _ [.slice xB xu xA,.slice KU KY KJ] _,fun h=>QBX⟩,(Lists.one (aC.below (ZT _ _))).append (Lists.one (aB.below (ZT _ _))),hbW.alloc hbW.size _⟩
  exact Zg
 exact Zg):p:=h
theorem QCW{p:Prop}(h:p:=by
 refine ZO (o:=⟨some 156,.load 26 (.tmp 155),_,_,_,_⟩) rfl (fun K hK=>?_) ?_
 ·go_simp
  refine hK.out _ _ QH (fun hHeld=>?_);clear hK K;refine Zl (rs:=[26]) QX QJ ?_;refine ZO (o:=⟨some 157,_,_,_,_,_⟩) rfl (fun K hK=>?_) ?_
  ·go_simp
   refine hK.out _ _ (Ym ‹_› Yz Yq (ZT _ _) (Cb ‹_›)) (fun hHeld=>?_);clear hK K;refine Zl (rs:=[27]) QX QJ ?_;refine ZO (o:=⟨some 22,.assign (.tmp 157),_,_,_,_⟩) rfl (fun K hK=>?_) ?_
   ·go_simp
    refine hK.out _ _ QH (fun hHeld=>?_);clear hK K;refine Ya QX ?_ _;have hbW:Below V4.heap.size V4 zX:=Kv xJ;have aC:=nQ.sl.below b11;have aB:=xZ.sl;go_wp2;go_meet;change∃us,Vs (zX.alloc (.cells #[.slice xB xu xA,.slice KU KY KJ] 26)) (.slice (some ⟨zX.heap.size,0,none⟩) 2 2) us/\Lists (zX.alloc (.cells #[.slice xB xu xA,.slice KU KY KJ] 26)) us _/\Below V4.heap.size V4 (zX.alloc (.cells #[.slice xB xu xA,.slice KU KY KJ] 26));exact⟨[.slice xB xu xA,.slice KU KY KJ],⟨_,2,2,rfl,rfl,QZ,QZ,JE _ [.slice xB xu xA,.slice KU KY KJ] _,fun h=>QBX⟩,(Lists.one (aC.below (ZT _ _))).append (Lists.one (aB.below (ZT _ _))),hbW.alloc hbW.size _⟩
   exact Zg
  exact Zg
 exact Zg):p:=h
theorem QCq{p:Prop}(h:p:=by
 obtain⟨c',hc'⟩:∃c',PG c=c':=⟨_,rfl⟩;rw[hc']at CS e1;have hS:∀(w:World),Calls Tryz.prog 247 #[.agg #[.int .i64 c.a,.int .i64 c.b,.int .i64 c.c,.int .i64 c.d,.int .i64 c.e]] w (fun e w'=>e=.returned (.tuple #[.agg #[.int .i64 c'.a,.int .i64 c'.b,.int .i64 c'.c,.int .i64 c'.d,.int .i64 c'.e],.bool (zH c.d).isSome])/\Below w.heap.size w w'):=fun w=>by
  have:=CS w;unfold C5.v at this;exact this
 have hno:zH c.d=none->c'=c:=fun hn=>QAW
 have HS:=Zy hS;have yF:=Zy e1;have Kj:=Zy hno;clear CS hS e1 hc' hno h0;rcases hk:zH c.d with _|pq
 ·rw[hk]at HS
  have bg:(none:Option (Int×Int)).isSome=false:=rfl;have HK:=Zy hk;clear hk;go_wp2_with (go_at_call 247;refine(HS.out _).mono ?_;rintro e w8 ⟨rfl,XF⟩;have qY:=Zy XF;clear XF)
  go_meet;exact⟨rfl,⟨us,Qu⟩,(Yx.of qY.out).trans (Yx.of (ZT _ _))⟩
 ·rw[hk]at HS
  have bg:(some pq:Option (Int×Int)).isSome=true:=rfl;clear hk;go_wp2_with (go_at_call 247;refine(HS.out _).mono ?_;rintro e w8 ⟨rfl,XF⟩;have JY:=HX.out.to XF;have g29:=JY.YE;have g30:=JY.UB;have g31:=JY.c31;have g32:=JY.c32;have g33:=JY.Kr;have k29:=JY.free 29;have sM:=JY.free 30;have sI:=JY.free 31;have k32:=JY.free 32;have k33:=JY.free 33;have Mi:=JY.lt;have O0:=Zy JY;have qY:=Zy XF;clear XF JY)
  go_meet;exact⟨rfl,⟨_,QM⟩,((Yx.of qY.out).trans (Yx.setCells c'.cells)).trans (Yx.of (ZT _ _))⟩):p:=h
theorem QCz{p:Prop}(h:p:=by
 refine hK.out _ _ xJ (fun hHeld=>?_);clear hK K;refine ZP 23 ⟨some 154,.nilCheck (.tmp 153),_,_,_,_⟩ ((.pointer (some ⟨J8,0,none⟩))) ?_;simp only[Act.put,Zj,Zk,Zu];refine ZP 24 ⟨some 155,.fieldAddr 228 (.tmp 154) 2,_,_,_,_⟩ ((.pointer (some ⟨J8,2,none⟩))) ?_;simp only[Act.put,Zj,Zk,Zu];refine Zl (rs:=[25]) QX QJ ?_;refine ZO (o:=⟨some 156,.load 26 (.tmp 155),_,_,_,_⟩) rfl (fun K hK=>?_) ?_
 ·go_simp
  refine hK.out _ _ QH (fun hHeld=>?_);clear hK K;refine Zl (rs:=[26]) QX QJ ?_;refine ZO (o:=⟨some 157,_,_,_,_,_⟩) rfl (fun K hK=>?_) ?_
  ·go_simp
   refine hK.out _ _ (Ym ‹_› Yz Yq (ZT _ _) (Cb ‹_›)) (fun hHeld=>?_);clear hK K;refine Zl (rs:=[27]) QX QJ ?_;refine ZO (o:=⟨some 22,.assign (.tmp 157),_,_,_,_⟩) rfl (fun K hK=>?_) ?_
   ·go_simp
    refine hK.out _ _ QH (fun hHeld=>?_);clear hK K;refine Ya QX ?_ _;have hbW:Below V4.heap.size V4 zX:=Kv xJ;have aC:=nQ.sl.below b11;have aB:=xZ.sl;go_wp2;go_meet;change∃us,Vs (zX.alloc (.cells #[.slice xB xu xA,.slice KU KY KJ] 26)) (.slice (some ⟨zX.heap.size,0,none⟩) 2 2) us/\Lists (zX.alloc (.cells #[.slice xB xu xA,.slice KU KY KJ] 26)) us _/\Below V4.heap.size V4 (zX.alloc (.cells #[.slice xB xu xA,.slice KU KY KJ] 26));exact⟨[.slice xB xu xA,.slice KU KY KJ],⟨_,2,2,rfl,rfl,QZ,QZ,JE _ [.slice xB xu xA,.slice KU KY KJ] _,fun h=>QBX⟩,(Lists.one (aC.below (ZT _ _))).append (Lists.one (aB.below (ZT _ _))),hbW.alloc hbW.size _⟩
   exact Zg
  exact Zg
 exact Zg):p:=h
theorem QCx{p:Prop}(h:p:=by
 clear hK K;refine ZP 23 ⟨some 154,.nilCheck (.tmp 153),_,_,_,_⟩ ((.pointer (some ⟨J8,0,none⟩))) ?_;simp only[Act.put,Zj,Zk,Zu];refine ZP 24 ⟨some 155,.fieldAddr 228 (.tmp 154) 2,_,_,_,_⟩ ((.pointer (some ⟨J8,2,none⟩))) ?_;simp only[Act.put,Zj,Zk,Zu];refine Zl (rs:=[25]) QX QJ ?_;refine ZO (o:=⟨some 156,.load 26 (.tmp 155),_,_,_,_⟩) rfl (fun K hK=>?_) ?_
 ·go_simp
  refine hK.out _ _ QH (fun hHeld=>?_);clear hK K;refine Zl (rs:=[26]) QX QJ ?_;refine ZO (o:=⟨some 157,_,_,_,_,_⟩) rfl (fun K hK=>?_) ?_
  ·go_simp
   refine hK.out _ _ (Ym ‹_› Yz Yq (ZT _ _) (Cb ‹_›)) (fun hHeld=>?_);clear hK K;refine Zl (rs:=[27]) QX QJ ?_;refine ZO (o:=⟨some 22,.assign (.tmp 157),_,_,_,_⟩) rfl (fun K hK=>?_) ?_
   ·go_simp
    refine hK.out _ _ QH (fun hHeld=>?_);clear hK K;refine Ya QX ?_ _;have hbW:Below V4.heap.size V4 zX:=Kv xJ;have aC:=nQ.sl.below b11;have aB:=xZ.sl;go_wp2;go_meet;change∃us,Vs (zX.alloc (.cells #[.slice xB xu xA,.slice KU KY KJ] 26)) (.slice (some ⟨zX.heap.size,0,none⟩) 2 2) us/\Lists (zX.alloc (.cells #[.slice xB xu xA,.slice KU KY KJ] 26)) us _/\Below V4.heap.size V4 (zX.alloc (.cells #[.slice xB xu xA,.slice KU KY KJ] 26));exact⟨[.slice xB xu xA,.slice KU KY KJ],⟨_,2,2,rfl,rfl,QZ,QZ,JE _ [.slice xB xu xA,.slice KU KY KJ] _,fun h=>QBX⟩,(Lists.one (aC.below (ZT _ _))).append (Lists.one (aB.below (ZT _ _))),hbW.alloc hbW.size _⟩
   exact Zg
  exact Zg
 exact Zg):p:=h
theorem QCy{p:Prop}(h:p:=by
 rw[hc']at CS e1;have hS:∀(w:World),Calls Tryz.prog 247 #[.agg #[.int .i64 c.a,.int .i64 c.b,.int .i64 c.c,.int .i64 c.d,.int .i64 c.e]] w (fun e w'=>e=.returned (.tuple #[.agg #[.int .i64 c'.a,.int .i64 c'.b,.int .i64 c'.c,.int .i64 c'.d,.int .i64 c'.e],.bool (zH c.d).isSome])/\Below w.heap.size w w'):=fun w=>by
  have:=CS w;unfold C5.v at this;exact this
 have hno:zH c.d=none->c'=c:=fun hn=>QAW
 have HS:=Zy hS;have yF:=Zy e1;have Kj:=Zy hno;clear CS hS e1 hc' hno h0;rcases hk:zH c.d with _|pq
 ·rw[hk]at HS
  have bg:(none:Option (Int×Int)).isSome=false:=rfl;have HK:=Zy hk;clear hk;go_wp2_with (go_at_call 247;refine(HS.out _).mono ?_;rintro e w8 ⟨rfl,XF⟩;have qY:=Zy XF;clear XF)
  go_meet;exact⟨rfl,⟨us,Qu⟩,(Yx.of qY.out).trans (Yx.of (ZT _ _))⟩
 ·rw[hk]at HS
  have bg:(some pq:Option (Int×Int)).isSome=true:=rfl;clear hk;go_wp2_with (go_at_call 247;refine(HS.out _).mono ?_;rintro e w8 ⟨rfl,XF⟩;have JY:=HX.out.to XF;have g29:=JY.YE;have g30:=JY.UB;have g31:=JY.c31;have g32:=JY.c32;have g33:=JY.Kr;have k29:=JY.free 29;have sM:=JY.free 30;have sI:=JY.free 31;have k32:=JY.free 32;have k33:=JY.free 33;have Mi:=JY.lt;have O0:=Zy JY;have qY:=Zy XF;clear XF JY)
  go_meet;exact⟨rfl,⟨_,QM⟩,((Yx.of qY.out).trans (Yx.setCells c'.cells)).trans (Yx.of (ZT _ _))⟩):p:=h
theorem QCj{p:Prop}(h:p:=by
 refine ZP 23 ⟨some 154,.nilCheck (.tmp 153),_,_,_,_⟩ ((.pointer (some ⟨J8,0,none⟩))) ?_;simp only[Act.put,Zj,Zk,Zu];refine ZP 24 ⟨some 155,.fieldAddr 228 (.tmp 154) 2,_,_,_,_⟩ ((.pointer (some ⟨J8,2,none⟩))) ?_;simp only[Act.put,Zj,Zk,Zu];refine Zl (rs:=[25]) QX QJ ?_;refine ZO (o:=⟨some 156,.load 26 (.tmp 155),_,_,_,_⟩) rfl (fun K hK=>?_) ?_
 ·go_simp
  refine hK.out _ _ QH (fun hHeld=>?_);clear hK K;refine Zl (rs:=[26]) QX QJ ?_;refine ZO (o:=⟨some 157,_,_,_,_,_⟩) rfl (fun K hK=>?_) ?_
  ·go_simp
   refine hK.out _ _ (Ym ‹_› Yz Yq (ZT _ _) (Cb ‹_›)) (fun hHeld=>?_);clear hK K;refine Zl (rs:=[27]) QX QJ ?_;refine ZO (o:=⟨some 22,.assign (.tmp 157),_,_,_,_⟩) rfl (fun K hK=>?_) ?_
   ·go_simp
    refine hK.out _ _ QH (fun hHeld=>?_);clear hK K;refine Ya QX ?_ _;have hbW:Below V4.heap.size V4 zX:=Kv xJ;have aC:=nQ.sl.below b11;have aB:=xZ.sl;go_wp2;go_meet;change∃us,Vs (zX.alloc (.cells #[.slice xB xu xA,.slice KU KY KJ] 26)) (.slice (some ⟨zX.heap.size,0,none⟩) 2 2) us/\Lists (zX.alloc (.cells #[.slice xB xu xA,.slice KU KY KJ] 26)) us _/\Below V4.heap.size V4 (zX.alloc (.cells #[.slice xB xu xA,.slice KU KY KJ] 26));exact⟨[.slice xB xu xA,.slice KU KY KJ],⟨_,2,2,rfl,rfl,QZ,QZ,JE _ [.slice xB xu xA,.slice KU KY KJ] _,fun h=>QBX⟩,(Lists.one (aC.below (ZT _ _))).append (Lists.one (aB.below (ZT _ _))),hbW.alloc hbW.size _⟩
   exact Zg
  exact Zg
 exact Zg):p:=h
theorem QCk{p:Prop}(h:p:=by
 have hS:∀(w:World),Calls Tryz.prog 247 #[.agg #[.int .i64 c.a,.int .i64 c.b,.int .i64 c.c,.int .i64 c.d,.int .i64 c.e]] w (fun e w'=>e=.returned (.tuple #[.agg #[.int .i64 c'.a,.int .i64 c'.b,.int .i64 c'.c,.int .i64 c'.d,.int .i64 c'.e],.bool (zH c.d).isSome])/\Below w.heap.size w w'):=fun w=>by
  have:=CS w;unfold C5.v at this;exact this
 have hno:zH c.d=none->c'=c:=fun hn=>QAW
 have HS:=Zy hS;have yF:=Zy e1;have Kj:=Zy hno;clear CS hS e1 hc' hno h0;rcases hk:zH c.d with _|pq
 ·rw[hk]at HS
  have bg:(none:Option (Int×Int)).isSome=false:=rfl;have HK:=Zy hk;clear hk;go_wp2_with (go_at_call 247;refine(HS.out _).mono ?_;rintro e w8 ⟨rfl,XF⟩;have qY:=Zy XF;clear XF)
  go_meet;exact⟨rfl,⟨us,Qu⟩,(Yx.of qY.out).trans (Yx.of (ZT _ _))⟩
 ·rw[hk]at HS
  have bg:(some pq:Option (Int×Int)).isSome=true:=rfl;clear hk;go_wp2_with (go_at_call 247;refine(HS.out _).mono ?_;rintro e w8 ⟨rfl,XF⟩;have JY:=HX.out.to XF;have g29:=JY.YE;have g30:=JY.UB;have g31:=JY.c31;have g32:=JY.c32;have g33:=JY.Kr;have k29:=JY.free 29;have sM:=JY.free 30;have sI:=JY.free 31;have k32:=JY.free 32;have k33:=JY.free 33;have Mi:=JY.lt;have O0:=Zy JY;have qY:=Zy XF;clear XF JY)
  go_meet;exact⟨rfl,⟨_,QM⟩,((Yx.of qY.out).trans (Yx.setCells c'.cells)).trans (Yx.of (ZT _ _))⟩):p:=h
theorem QCu{p:Prop}(h:p:=by
 simp only[Act.put,Zj,Zk,Zu];refine ZP 24 ⟨some 155,.fieldAddr 228 (.tmp 154) 2,_,_,_,_⟩ ((.pointer (some ⟨J8,2,none⟩))) ?_;simp only[Act.put,Zj,Zk,Zu];refine Zl (rs:=[25]) QX QJ ?_;refine ZO (o:=⟨some 156,.load 26 (.tmp 155),_,_,_,_⟩) rfl (fun K hK=>?_) ?_
 ·go_simp
  refine hK.out _ _ QH (fun hHeld=>?_);clear hK K;refine Zl (rs:=[26]) QX QJ ?_;refine ZO (o:=⟨some 157,_,_,_,_,_⟩) rfl (fun K hK=>?_) ?_
  ·go_simp
   refine hK.out _ _ (Ym ‹_› Yz Yq (ZT _ _) (Cb ‹_›)) (fun hHeld=>?_);clear hK K;refine Zl (rs:=[27]) QX QJ ?_;refine ZO (o:=⟨some 22,.assign (.tmp 157),_,_,_,_⟩) rfl (fun K hK=>?_) ?_
   ·go_simp
    refine hK.out _ _ QH (fun hHeld=>?_);clear hK K;refine Ya QX ?_ _;have hbW:Below V4.heap.size V4 zX:=Kv xJ;have aC:=nQ.sl.below b11;have aB:=xZ.sl;go_wp2;go_meet;change∃us,Vs (zX.alloc (.cells #[.slice xB xu xA,.slice KU KY KJ] 26)) (.slice (some ⟨zX.heap.size,0,none⟩) 2 2) us/\Lists (zX.alloc (.cells #[.slice xB xu xA,.slice KU KY KJ] 26)) us _/\Below V4.heap.size V4 (zX.alloc (.cells #[.slice xB xu xA,.slice KU KY KJ] 26));exact⟨[.slice xB xu xA,.slice KU KY KJ],⟨_,2,2,rfl,rfl,QZ,QZ,JE _ [.slice xB xu xA,.slice KU KY KJ] _,fun h=>QBX⟩,(Lists.one (aC.below (ZT _ _))).append (Lists.one (aB.below (ZT _ _))),hbW.alloc hbW.size _⟩
   exact Zg
  exact Zg
 exact Zg):p:=h
theorem QCv{p:Prop}(h:p:=by
 refine hK.out _ _ (Ym ‹_› Yz Yq (ZT _ _) (Cb ‹_›)) (fun hHeld=>?_);clear hK K;refine Zl (rs:=[27]) QX QJ ?_;refine ZO (o:=⟨some 22,.assign (.tmp 157),_,_,_,_⟩) rfl (fun K hK=>?_) ?_
 ·go_simp
  refine hK.out _ _ QH (fun hHeld=>?_);clear hK K;refine Ya QX ?_ _;have hbW:Below V4.heap.size V4 zX:=Kv xJ;have aC:=nQ.sl.below b11;have aB:=xZ.sl;go_wp2;go_meet;change∃us,Vs (zX.alloc (.cells #[.slice xB xu xA,.slice KU KY KJ] 26)) (.slice (some ⟨zX.heap.size,0,none⟩) 2 2) us/\Lists (zX.alloc (.cells #[.slice xB xu xA,.slice KU KY KJ] 26)) us _/\Below V4.heap.size V4 (zX.alloc (.cells #[.slice xB xu xA,.slice KU KY KJ] 26));exact⟨[.slice xB xu xA,.slice KU KY KJ],⟨_,2,2,rfl,rfl,QZ,QZ,JE _ [.slice xB xu xA,.slice KU KY KJ] _,fun h=>QBX⟩,(Lists.one (aC.below (ZT _ _))).append (Lists.one (aB.below (ZT _ _))),hbW.alloc hbW.size _⟩
 exact Zg):p:=h
theorem QCA{p:Prop}(h:p:=by
 refine ZP 24 ⟨some 155,.fieldAddr 228 (.tmp 154) 2,_,_,_,_⟩ ((.pointer (some ⟨J8,2,none⟩))) ?_;simp only[Act.put,Zj,Zk,Zu];refine Zl (rs:=[25]) QX QJ ?_;refine ZO (o:=⟨some 156,.load 26 (.tmp 155),_,_,_,_⟩) rfl (fun K hK=>?_) ?_
 ·go_simp
  refine hK.out _ _ QH (fun hHeld=>?_);clear hK K;refine Zl (rs:=[26]) QX QJ ?_;refine ZO (o:=⟨some 157,_,_,_,_,_⟩) rfl (fun K hK=>?_) ?_
  ·go_simp
   refine hK.out _ _ (Ym ‹_› Yz Yq (ZT _ _) (Cb ‹_›)) (fun hHeld=>?_);clear hK K;refine Zl (rs:=[27]) QX QJ ?_;refine ZO (o:=⟨some 22,.assign (.tmp 157),_,_,_,_⟩) rfl (fun K hK=>?_) ?_
   ·go_simp
    refine hK.out _ _ QH (fun hHeld=>?_);clear hK K;refine Ya QX ?_ _;have hbW:Below V4.heap.size V4 zX:=Kv xJ;have aC:=nQ.sl.below b11;have aB:=xZ.sl;go_wp2;go_meet;change∃us,Vs (zX.alloc (.cells #[.slice xB xu xA,.slice KU KY KJ] 26)) (.slice (some ⟨zX.heap.size,0,none⟩) 2 2) us/\Lists (zX.alloc (.cells #[.slice xB xu xA,.slice KU KY KJ] 26)) us _/\Below V4.heap.size V4 (zX.alloc (.cells #[.slice xB xu xA,.slice KU KY KJ] 26));exact⟨[.slice xB xu xA,.slice KU KY KJ],⟨_,2,2,rfl,rfl,QZ,QZ,JE _ [.slice xB xu xA,.slice KU KY KJ] _,fun h=>QBX⟩,(Lists.one (aC.below (ZT _ _))).append (Lists.one (aB.below (ZT _ _))),hbW.alloc hbW.size _⟩
   exact Zg
  exact Zg
 exact Zg):p:=h
theorem QCB{p:Prop}(h:p:=by
 clear hK K;refine Zl (rs:=[27]) QX QJ ?_;refine ZO (o:=⟨some 22,.assign (.tmp 157),_,_,_,_⟩) rfl (fun K hK=>?_) ?_
 ·go_simp
  refine hK.out _ _ QH (fun hHeld=>?_);clear hK K;refine Ya QX ?_ _;have hbW:Below V4.heap.size V4 zX:=Kv xJ;have aC:=nQ.sl.below b11;have aB:=xZ.sl;go_wp2;go_meet;change∃us,Vs (zX.alloc (.cells #[.slice xB xu xA,.slice KU KY KJ] 26)) (.slice (some ⟨zX.heap.size,0,none⟩) 2 2) us/\Lists (zX.alloc (.cells #[.slice xB xu xA,.slice KU KY KJ] 26)) us _/\Below V4.heap.size V4 (zX.alloc (.cells #[.slice xB xu xA,.slice KU KY KJ] 26));exact⟨[.slice xB xu xA,.slice KU KY KJ],⟨_,2,2,rfl,rfl,QZ,QZ,JE _ [.slice xB xu xA,.slice KU KY KJ] _,fun h=>QBX⟩,(Lists.one (aC.below (ZT _ _))).append (Lists.one (aB.below (ZT _ _))),hbW.alloc hbW.size _⟩
 exact Zg):p:=h
theorem QCC{p:Prop}(h:p:=by
 simp only[Act.put,Zj,Zk,Zu];refine Zl (rs:=[25]) QX QJ ?_;refine ZO (o:=⟨some 156,.load 26 (.tmp 155),_,_,_,_⟩) rfl (fun K hK=>?_) ?_
 ·go_simp
  refine hK.out _ _ QH (fun hHeld=>?_);clear hK K;refine Zl (rs:=[26]) QX QJ ?_;refine ZO (o:=⟨some 157,_,_,_,_,_⟩) rfl (fun K hK=>?_) ?_
  ·go_simp
   refine hK.out _ _ (Ym ‹_› Yz Yq (ZT _ _) (Cb ‹_›)) (fun hHeld=>?_);clear hK K;refine Zl (rs:=[27]) QX QJ ?_;refine ZO (o:=⟨some 22,.assign (.tmp 157),_,_,_,_⟩) rfl (fun K hK=>?_) ?_
   ·go_simp
    refine hK.out _ _ QH (fun hHeld=>?_);clear hK K;refine Ya QX ?_ _;have hbW:Below V4.heap.size V4 zX:=Kv xJ;have aC:=nQ.sl.below b11;have aB:=xZ.sl;go_wp2;go_meet;change∃us,Vs (zX.alloc (.cells #[.slice xB xu xA,.slice KU KY KJ] 26)) (.slice (some ⟨zX.heap.size,0,none⟩) 2 2) us/\Lists (zX.alloc (.cells #[.slice xB xu xA,.slice KU KY KJ] 26)) us _/\Below V4.heap.size V4 (zX.alloc (.cells #[.slice xB xu xA,.slice KU KY KJ] 26));exact⟨[.slice xB xu xA,.slice KU KY KJ],⟨_,2,2,rfl,rfl,QZ,QZ,JE _ [.slice xB xu xA,.slice KU KY KJ] _,fun h=>QBX⟩,(Lists.one (aC.below (ZT _ _))).append (Lists.one (aB.below (ZT _ _))),hbW.alloc hbW.size _⟩
   exact Zg
  exact Zg
 exact Zg):p:=h
theorem QCD{p:Prop}(h:p:=by
 refine Zl (rs:=[27]) QX QJ ?_;refine ZO (o:=⟨some 22,.assign (.tmp 157),_,_,_,_⟩) rfl (fun K hK=>?_) ?_
 ·go_simp
  refine hK.out _ _ QH (fun hHeld=>?_);clear hK K;refine Ya QX ?_ _;have hbW:Below V4.heap.size V4 zX:=Kv xJ;have aC:=nQ.sl.below b11;have aB:=xZ.sl;go_wp2;go_meet;change∃us,Vs (zX.alloc (.cells #[.slice xB xu xA,.slice KU KY KJ] 26)) (.slice (some ⟨zX.heap.size,0,none⟩) 2 2) us/\Lists (zX.alloc (.cells #[.slice xB xu xA,.slice KU KY KJ] 26)) us _/\Below V4.heap.size V4 (zX.alloc (.cells #[.slice xB xu xA,.slice KU KY KJ] 26));exact⟨[.slice xB xu xA,.slice KU KY KJ],⟨_,2,2,rfl,rfl,QZ,QZ,JE _ [.slice xB xu xA,.slice KU KY KJ] _,fun h=>QBX⟩,(Lists.one (aC.below (ZT _ _))).append (Lists.one (aB.below (ZT _ _))),hbW.alloc hbW.size _⟩
 exact Zg):p:=h
theorem QCE{p:Prop}(h:p:=by
 refine ZO (o:=⟨some 22,.assign (.tmp 157),_,_,_,_⟩) rfl (fun K hK=>?_) ?_
 ·go_simp
  refine hK.out _ _ QH (fun hHeld=>?_);clear hK K;refine Ya QX ?_ _;have hbW:Below V4.heap.size V4 zX:=Kv xJ;have aC:=nQ.sl.below b11;have aB:=xZ.sl;go_wp2;go_meet;change∃us,Vs (zX.alloc (.cells #[.slice xB xu xA,.slice KU KY KJ] 26)) (.slice (some ⟨zX.heap.size,0,none⟩) 2 2) us/\Lists (zX.alloc (.cells #[.slice xB xu xA,.slice KU KY KJ] 26)) us _/\Below V4.heap.size V4 (zX.alloc (.cells #[.slice xB xu xA,.slice KU KY KJ] 26));exact⟨[.slice xB xu xA,.slice KU KY KJ],⟨_,2,2,rfl,rfl,QZ,QZ,JE _ [.slice xB xu xA,.slice KU KY KJ] _,fun h=>QBX⟩,(Lists.one (aC.below (ZT _ _))).append (Lists.one (aB.below (ZT _ _))),hbW.alloc hbW.size _⟩
 exact Zg):p:=h
theorem QCF{p:Prop}(h:p:=by
 have hno:zH c.d=none->c'=c:=fun hn=>QAW
 have HS:=Zy hS;have yF:=Zy e1;have Kj:=Zy hno;clear CS hS e1 hc' hno h0;rcases hk:zH c.d with _|pq
 ·rw[hk]at HS
  have bg:(none:Option (Int×Int)).isSome=false:=rfl;have HK:=Zy hk;clear hk;go_wp2_with (go_at_call 247;refine(HS.out _).mono ?_;rintro e w8 ⟨rfl,XF⟩;have qY:=Zy XF;clear XF)
  go_meet;exact⟨rfl,⟨us,Qu⟩,(Yx.of qY.out).trans (Yx.of (ZT _ _))⟩
 ·rw[hk]at HS
  have bg:(some pq:Option (Int×Int)).isSome=true:=rfl;clear hk;go_wp2_with (go_at_call 247;refine(HS.out _).mono ?_;rintro e w8 ⟨rfl,XF⟩;have JY:=HX.out.to XF;have g29:=JY.YE;have g30:=JY.UB;have g31:=JY.c31;have g32:=JY.c32;have g33:=JY.Kr;have k29:=JY.free 29;have sM:=JY.free 30;have sI:=JY.free 31;have k32:=JY.free 32;have k33:=JY.free 33;have Mi:=JY.lt;have O0:=Zy JY;have qY:=Zy XF;clear XF JY)
  go_meet;exact⟨rfl,⟨_,QM⟩,((Yx.of qY.out).trans (Yx.setCells c'.cells)).trans (Yx.of (ZT _ _))⟩):p:=h
theorem QCG{p:Prop}(h:p:=by
 have HS:=Zy hS;have yF:=Zy e1;have Kj:=Zy hno;clear CS hS e1 hc' hno h0;rcases hk:zH c.d with _|pq
 ·rw[hk]at HS
  have bg:(none:Option (Int×Int)).isSome=false:=rfl;have HK:=Zy hk;clear hk;go_wp2_with (go_at_call 247;refine(HS.out _).mono ?_;rintro e w8 ⟨rfl,XF⟩;have qY:=Zy XF;clear XF)
  go_meet;exact⟨rfl,⟨us,Qu⟩,(Yx.of qY.out).trans (Yx.of (ZT _ _))⟩
 ·rw[hk]at HS
  have bg:(some pq:Option (Int×Int)).isSome=true:=rfl;clear hk;go_wp2_with (go_at_call 247;refine(HS.out _).mono ?_;rintro e w8 ⟨rfl,XF⟩;have JY:=HX.out.to XF;have g29:=JY.YE;have g30:=JY.UB;have g31:=JY.c31;have g32:=JY.c32;have g33:=JY.Kr;have k29:=JY.free 29;have sM:=JY.free 30;have sI:=JY.free 31;have k32:=JY.free 32;have k33:=JY.free 33;have Mi:=JY.lt;have O0:=Zy JY;have qY:=Zy XF;clear XF JY)
  go_meet;exact⟨rfl,⟨_,QM⟩,((Yx.of qY.out).trans (Yx.setCells c'.cells)).trans (Yx.of (ZT _ _))⟩):p:=h
theorem QCH{p:Prop}(h:p:=by
 have yF:=Zy e1;have Kj:=Zy hno;clear CS hS e1 hc' hno h0;rcases hk:zH c.d with _|pq
 ·rw[hk]at HS
  have bg:(none:Option (Int×Int)).isSome=false:=rfl;have HK:=Zy hk;clear hk;go_wp2_with (go_at_call 247;refine(HS.out _).mono ?_;rintro e w8 ⟨rfl,XF⟩;have qY:=Zy XF;clear XF)
  go_meet;exact⟨rfl,⟨us,Qu⟩,(Yx.of qY.out).trans (Yx.of (ZT _ _))⟩
 ·rw[hk]at HS
  have bg:(some pq:Option (Int×Int)).isSome=true:=rfl;clear hk;go_wp2_with (go_at_call 247;refine(HS.out _).mono ?_;rintro e w8 ⟨rfl,XF⟩;have JY:=HX.out.to XF;have g29:=JY.YE;have g30:=JY.UB;have g31:=JY.c31;have g32:=JY.c32;have g33:=JY.Kr;have k29:=JY.free 29;have sM:=JY.free 30;have sI:=JY.free 31;have k32:=JY.free 32;have k33:=JY.free 33;have Mi:=JY.lt;have O0:=Zy JY;have qY:=Zy XF;clear XF JY)
  go_meet;exact⟨rfl,⟨_,QM⟩,((Yx.of qY.out).trans (Yx.setCells c'.cells)).trans (Yx.of (ZT _ _))⟩):p:=h
theorem QCI{p:Prop}(h:p:=by
 have Kj:=Zy hno;clear CS hS e1 hc' hno h0;rcases hk:zH c.d with _|pq
 ·rw[hk]at HS
  have bg:(none:Option (Int×Int)).isSome=false:=rfl;have HK:=Zy hk;clear hk;go_wp2_with (go_at_call 247;refine(HS.out _).mono ?_;rintro e w8 ⟨rfl,XF⟩;have qY:=Zy XF;clear XF)
  go_meet;exact⟨rfl,⟨us,Qu⟩,(Yx.of qY.out).trans (Yx.of (ZT _ _))⟩
 ·rw[hk]at HS
  have bg:(some pq:Option (Int×Int)).isSome=true:=rfl;clear hk;go_wp2_with (go_at_call 247;refine(HS.out _).mono ?_;rintro e w8 ⟨rfl,XF⟩;have JY:=HX.out.to XF;have g29:=JY.YE;have g30:=JY.UB;have g31:=JY.c31;have g32:=JY.c32;have g33:=JY.Kr;have k29:=JY.free 29;have sM:=JY.free 30;have sI:=JY.free 31;have k32:=JY.free 32;have k33:=JY.free 33;have Mi:=JY.lt;have O0:=Zy JY;have qY:=Zy XF;clear XF JY)
  go_meet;exact⟨rfl,⟨_,QM⟩,((Yx.of qY.out).trans (Yx.setCells c'.cells)).trans (Yx.of (ZT _ _))⟩):p:=h
theorem QCL{p:Prop}(h:p:=by
 refine hK.out _ _ QH (fun hHeld=>?_);clear hK K;refine Ya QX ?_ _;have hbW:Below V4.heap.size V4 zX:=Kv xJ;have aC:=nQ.sl.below b11;have aB:=xZ.sl;go_wp2;go_meet;change∃us,Vs (zX.alloc (.cells #[.slice xB xu xA,.slice KU KY KJ] 26)) (.slice (some ⟨zX.heap.size,0,none⟩) 2 2) us/\Lists (zX.alloc (.cells #[.slice xB xu xA,.slice KU KY KJ] 26)) us _/\Below V4.heap.size V4 (zX.alloc (.cells #[.slice xB xu xA,.slice KU KY KJ] 26));exact⟨[.slice xB xu xA,.slice KU KY KJ],⟨_,2,2,rfl,rfl,QZ,QZ,JE _ [.slice xB xu xA,.slice KU KY KJ] _,fun h=>QBX⟩,(Lists.one (aC.below (ZT _ _))).append (Lists.one (aB.below (ZT _ _))),hbW.alloc hbW.size _⟩):p:=h
theorem QCM{p:Prop}(h:p:=by
 clear CS hS e1 hc' hno h0;rcases hk:zH c.d with _|pq
 ·rw[hk]at HS
  have bg:(none:Option (Int×Int)).isSome=false:=rfl;have HK:=Zy hk;clear hk;go_wp2_with (go_at_call 247;refine(HS.out _).mono ?_;rintro e w8 ⟨rfl,XF⟩;have qY:=Zy XF;clear XF)
  go_meet;exact⟨rfl,⟨us,Qu⟩,(Yx.of qY.out).trans (Yx.of (ZT _ _))⟩
 ·rw[hk]at HS
  have bg:(some pq:Option (Int×Int)).isSome=true:=rfl;clear hk;go_wp2_with (go_at_call 247;refine(HS.out _).mono ?_;rintro e w8 ⟨rfl,XF⟩;have JY:=HX.out.to XF;have g29:=JY.YE;have g30:=JY.UB;have g31:=JY.c31;have g32:=JY.c32;have g33:=JY.Kr;have k29:=JY.free 29;have sM:=JY.free 30;have sI:=JY.free 31;have k32:=JY.free 32;have k33:=JY.free 33;have Mi:=JY.lt;have O0:=Zy JY;have qY:=Zy XF;clear XF JY)
  go_meet;exact⟨rfl,⟨_,QM⟩,((Yx.of qY.out).trans (Yx.setCells c'.cells)).trans (Yx.of (ZT _ _))⟩):p:=h
theorem QCN{p:Prop}(h:p:=by
 rcases hk:zH c.d with _|pq
 ·rw[hk]at HS
  have bg:(none:Option (Int×Int)).isSome=false:=rfl;have HK:=Zy hk;clear hk;go_wp2_with (go_at_call 247;refine(HS.out _).mono ?_;rintro e w8 ⟨rfl,XF⟩;have qY:=Zy XF;clear XF)
  go_meet;exact⟨rfl,⟨us,Qu⟩,(Yx.of qY.out).trans (Yx.of (ZT _ _))⟩
 ·rw[hk]at HS
  have bg:(some pq:Option (Int×Int)).isSome=true:=rfl;clear hk;go_wp2_with (go_at_call 247;refine(HS.out _).mono ?_;rintro e w8 ⟨rfl,XF⟩;have JY:=HX.out.to XF;have g29:=JY.YE;have g30:=JY.UB;have g31:=JY.c31;have g32:=JY.c32;have g33:=JY.Kr;have k29:=JY.free 29;have sM:=JY.free 30;have sI:=JY.free 31;have k32:=JY.free 32;have k33:=JY.free 33;have Mi:=JY.lt;have O0:=Zy JY;have qY:=Zy XF;clear XF JY)
  go_meet;exact⟨rfl,⟨_,QM⟩,((Yx.of qY.out).trans (Yx.setCells c'.cells)).trans (Yx.of (ZT _ _))⟩):p:=h
theorem QCO{p:Prop}(h:p:=by
 have hX:=Ug.start w f r o s 0;obtain⟨b1,b2,b3,b4,b5⟩:=J2 hp;have HP:=Zy hp;clear hp;rw[Uh hu,hk,if_neg QQ,if_pos QQ];have u1:32<=key:=Qe;have u2:(key==127)=false:=QO;clear hu;have HK:=Zy hk;clear hk;go_enter Tryz.func89,Tryz.ntmps89
 go_wp2_with (first|(go_at_call 17;refine(YV _ _ _ _ _ _).mono ?_;rintro e w9 ⟨rfl,hb⟩;rw[HP.out];have hX1:=hX.below hb;obtain⟨c0,c1,c2,c3,c4⟩:=hX1.p.five;obtain⟨g0,g1,g2,g3,g4⟩:=hX1.p.Z6;obtain⟨k0,k1,k2,k3,k4⟩:=hX1.q.five;obtain⟨l0,l1,l2,l3,l4⟩:=hX1.q.Z6;obtain⟨m0,m1,m2,m3,m4⟩:=hX1.c.five;obtain⟨n0,n1,n2,n3,n4⟩:=hX1.c.Z6)|(go_at_call 138;refine(YT _ _ _ _ _ _ _).mono ?_;rintro e w8 ⟨rfl,hb2⟩;rw[HK.out];have hX2:=hX1.below hb2;obtain⟨c0,c1,c2,c3,c4⟩:=hX2.p.five;obtain⟨g0,g1,g2,g3,g4⟩:=hX2.p.Z6;obtain⟨k0,k1,k2,k3,k4⟩:=hX2.q.five;obtain⟨l0,l1,l2,l3,l4⟩:=hX2.q.Z6;obtain⟨m0,m1,m2,m3,m4⟩:=hX2.c.five;obtain⟨n0,n1,n2,n3,n4⟩:=hX2.c.Z6))
 obtain⟨hq,hc,hbel⟩:=(hX2.MW (f':=f) (r':=r) (o':=o) (s':=s) (iK:=key) 4 (.int .i64 key) rfl).done (.int .i64 (f)) (.int .i64 (r)) (.int .i64 (o)) (.int .i64 (s)) (.int .i64 (key)) (.int .i64 (0)) (.int .i64 (0)) (.int .i64 (0)) (.int .i64 (0)) (.int .i64 (0)) rfl;obtain⟨y0,y1,y2,y3,y4⟩:=hq.five;obtain⟨z0,z1,z2,z3,z4⟩:=hc.five;exact ZC (v:=.tuple #[(TK.more f r o s key).q,(TK.more f r o s key).c,.int .i64 1,.int .i64 0]) Qj rfl (XB.of hbel)):p:=h
theorem QCP{p:Prop}(h:p:=by
 clear hK K;refine Ya QX ?_ _;have hbW:Below V4.heap.size V4 zX:=Kv xJ;have aC:=nQ.sl.below b11;have aB:=xZ.sl;go_wp2;go_meet;change∃us,Vs (zX.alloc (.cells #[.slice xB xu xA,.slice KU KY KJ] 26)) (.slice (some ⟨zX.heap.size,0,none⟩) 2 2) us/\Lists (zX.alloc (.cells #[.slice xB xu xA,.slice KU KY KJ] 26)) us _/\Below V4.heap.size V4 (zX.alloc (.cells #[.slice xB xu xA,.slice KU KY KJ] 26));exact⟨[.slice xB xu xA,.slice KU KY KJ],⟨_,2,2,rfl,rfl,QZ,QZ,JE _ [.slice xB xu xA,.slice KU KY KJ] _,fun h=>QBX⟩,(Lists.one (aC.below (ZT _ _))).append (Lists.one (aB.below (ZT _ _))),hbW.alloc hbW.size _⟩):p:=h
theorem QCR{p:Prop}(h:p:=by
 refine Ya QX ?_ _;have hbW:Below V4.heap.size V4 zX:=Kv xJ;have aC:=nQ.sl.below b11;have aB:=xZ.sl;go_wp2;go_meet;change∃us,Vs (zX.alloc (.cells #[.slice xB xu xA,.slice KU KY KJ] 26)) (.slice (some ⟨zX.heap.size,0,none⟩) 2 2) us/\Lists (zX.alloc (.cells #[.slice xB xu xA,.slice KU KY KJ] 26)) us _/\Below V4.heap.size V4 (zX.alloc (.cells #[.slice xB xu xA,.slice KU KY KJ] 26));exact⟨[.slice xB xu xA,.slice KU KY KJ],⟨_,2,2,rfl,rfl,QZ,QZ,JE _ [.slice xB xu xA,.slice KU KY KJ] _,fun h=>QBX⟩,(Lists.one (aC.below (ZT _ _))).append (Lists.one (aB.below (ZT _ _))),hbW.alloc hbW.size _⟩):p:=h
theorem QCS{p:Prop}(h:p:=by
 have hbW:Below V4.heap.size V4 zX:=Kv xJ;have aC:=nQ.sl.below b11;have aB:=xZ.sl;go_wp2;go_meet;change∃us,Vs (zX.alloc (.cells #[.slice xB xu xA,.slice KU KY KJ] 26)) (.slice (some ⟨zX.heap.size,0,none⟩) 2 2) us/\Lists (zX.alloc (.cells #[.slice xB xu xA,.slice KU KY KJ] 26)) us _/\Below V4.heap.size V4 (zX.alloc (.cells #[.slice xB xu xA,.slice KU KY KJ] 26));exact⟨[.slice xB xu xA,.slice KU KY KJ],⟨_,2,2,rfl,rfl,QZ,QZ,JE _ [.slice xB xu xA,.slice KU KY KJ] _,fun h=>QBX⟩,(Lists.one (aC.below (ZT _ _))).append (Lists.one (aB.below (ZT _ _))),hbW.alloc hbW.size _⟩):p:=h
theorem QCT{p:Prop}(h:p:=by
 have aC:=nQ.sl.below b11;have aB:=xZ.sl;go_wp2;go_meet;change∃us,Vs (zX.alloc (.cells #[.slice xB xu xA,.slice KU KY KJ] 26)) (.slice (some ⟨zX.heap.size,0,none⟩) 2 2) us/\Lists (zX.alloc (.cells #[.slice xB xu xA,.slice KU KY KJ] 26)) us _/\Below V4.heap.size V4 (zX.alloc (.cells #[.slice xB xu xA,.slice KU KY KJ] 26));exact⟨[.slice xB xu xA,.slice KU KY KJ],⟨_,2,2,rfl,rfl,QZ,QZ,JE _ [.slice xB xu xA,.slice KU KY KJ] _,fun h=>QBX⟩,(Lists.one (aC.below (ZT _ _))).append (Lists.one (aB.below (ZT _ _))),hbW.alloc hbW.size _⟩):p:=h
theorem QCa{p:Prop}(h:p:=by
 go_region_held3 (fun w'=>w'.cell? ⟨P,0,none⟩=some (.slice I.a I.n I.c)/\w'.cell? ⟨P,29,none⟩=some (.int .i64 (N:Int))/\w'.cell? ⟨w.heap.size,0,none⟩=some (.pointer (some ⟨P,0,none⟩))) (first|exact⟨c0,YE,e0⟩|assumption) (fail)
 all_goals
  go_wp2;go_meet;exact⟨rfl,rfl,rfl⟩):p:=h
theorem QCb{p:Prop}(h:p:=by
 go_enter Tryz.func290,Tryz.ntmps290
 go_wp2;rw[HR.out];have hG:=(hP.set 0 (.int .i64 (0))).set 1 (.bool false);obtain⟨q0,q1,-,-⟩:=Za.two hG;refine ZC (v:=.tuple #[.agg #[.int .i64 (0),.bool false],.int .i64 5]) QK rfl ⟨rfl,?_⟩;first|exact(hacc.setCell (p:=⟨w.heap.size+1,0,none⟩) (ZA _) _).setCell (p:=⟨w.heap.size+1,1,none⟩) (ZA _) _|exact Zn _ _ _):p:=h
theorem QCc{p:Prop}(h:p:=by
 go_region_held3 (fun w'=>w'.cell? ⟨P,0,none⟩=some (.slice I.a I.n I.c)/\w'.cell? ⟨P,29,none⟩=some (.int .i64 0)/\w'.cell? ⟨w.heap.size,0,none⟩=some (.pointer (some ⟨P,0,none⟩))) (first|exact⟨c0,YE,e0⟩|assumption) (fail)
 all_goals
  go_wp2;go_meet;exact⟨rfl,rfl,rfl⟩):p:=h
theorem QCd{p:Prop}(h:p:=by
 go_region_held3 (fun w'=>w'.cell? ⟨P,0,none⟩=some (.slice I.a I.n I.c)/\w'.cell? ⟨P,29,none⟩=some (.int .i64 1)/\w'.cell? ⟨w.heap.size,0,none⟩=some (.pointer (some ⟨P,0,none⟩))) (first|exact⟨c0,YE,e0⟩|assumption) (fail)
 all_goals
  go_wp2;go_meet;exact⟨rfl,rfl,rfl⟩):p:=h
theorem QCe{p:Prop}(h:p:=by
 first|exact(Z4.setCell (p:=⟨w.heap.size+1,0,none⟩) (ZA _) _).setCell (p:=⟨w.heap.size+1,1,none⟩) (ZA _) _|exact Zn _ _ _):p:=h
theorem QCf{p:Prop}(h:p:=by
 have aB:=xZ.sl;go_wp2;go_meet;change∃us,Vs (zX.alloc (.cells #[.slice xB xu xA,.slice KU KY KJ] 26)) (.slice (some ⟨zX.heap.size,0,none⟩) 2 2) us/\Lists (zX.alloc (.cells #[.slice xB xu xA,.slice KU KY KJ] 26)) us _/\Below V4.heap.size V4 (zX.alloc (.cells #[.slice xB xu xA,.slice KU KY KJ] 26));exact⟨[.slice xB xu xA,.slice KU KY KJ],⟨_,2,2,rfl,rfl,QZ,QZ,JE _ [.slice xB xu xA,.slice KU KY KJ] _,fun h=>QBX⟩,(Lists.one (aC.below (ZT _ _))).append (Lists.one (aB.below (ZT _ _))),hbW.alloc hbW.size _⟩):p:=h
theorem QCg{p:Prop}(h:p:=by
 have VC:=(qx.other (a:=⟨w6.heap.size,4,none⟩) Qb (.slice a7 n7 c7)).other (a:=⟨w6.heap.size,5,none⟩) Qb (.bool false);have hG:=((((((VC.set 0 (.slice ra rn rc)).set 1 (.int .i64 M)).set 2 (.int .i64 (k:Int))).set 3 (.slice ta tn tc)).set 4 (.slice a7 n7 c7)).set 5 (.bool false));simp only[Zj,Zk,Zu]at hG;obtain⟨y0,y1,y2,y3,y4,y5⟩:=hG.six;obtain⟨nvs,hnv⟩:∃v,Fh=v:=⟨_,rfl⟩;refine ZC (v:=.tuple #[.agg (X3 (.slice ra rn rc) M (k:Int) (.slice ta tn tc) (.slice a7 n7 c7) false),Fh,.int .i64 0]) QW rfl ?_;have hk0:Below w6.heap.size w6 w7:=ZE (ZT w6 _) QJ qz;have kG:=gm.out.below hk0;have hwb:=gp.out.below hk0;have hst:=fun(w':World) (hc:∀p v,(w5.heap.size<=p.block/\p.block<w6.heap.size)->w7.cell? p=some v->w'.cell? p=some v)=>And.intro (kG.keep hc) (hwb.keep hc)
 have hown:=zh.mono (base':=w.heap.size+2) QY;have hk:=fun(p:Addr) (v:Value) (hp:w5.heap.size<=p.block/\p.block<w6.heap.size) (hc:w7.cell? p=some v)=>
  Zr (Zr (Zr (Zr (Zr (Zr (Zr (Zr hc
   (a:=⟨w6.heap.size,4,none⟩) (u:=.slice a7 n7 c7) Qi)
   (a:=⟨w6.heap.size,5,none⟩) (u:=.bool false) Qi)
   (a:=⟨w.heap.size+1,0,none⟩) (u:=.slice ra rn rc) QU)
   (a:=⟨w.heap.size+1,1,none⟩) (u:=.int .i64 M) QU)
   (a:=⟨w.heap.size+1,2,none⟩) (u:=.int .i64 (k:Int)) QU)
   (a:=⟨w.heap.size+1,3,none⟩) (u:=.slice ta tn tc) QU)
   (a:=⟨w.heap.size+1,4,none⟩) (u:=.slice a7 n7 c7) QU)
   (a:=⟨w.heap.size+1,5,none⟩) (u:=.bool false) QU
 obtain⟨hA,nG⟩:=hst _ hk;have hO:=((((((((zh.setCell (a:=⟨w6.heap.size,4,none⟩) QJ (.slice a7 n7 c7)).setCell (a:=⟨w6.heap.size,5,none⟩) QJ (.bool false)).mono (base':=w.heap.size+2) QY).setCell (a:=⟨w.heap.size+1,0,none⟩) (ZF _) (.slice ra rn rc)).setCell (a:=⟨w.heap.size+1,1,none⟩) (ZF _) (.int .i64 M)).setCell (a:=⟨w.heap.size+1,2,none⟩) (ZF _) (.int .i64 (k:Int))).setCell (a:=⟨w.heap.size+1,3,none⟩) (ZF _) (.slice ta tn tc)).setCell (a:=⟨w.heap.size+1,4,none⟩) (ZF _) (.slice a7 n7 c7)).setCell (a:=⟨w.heap.size+1,5,none⟩) (ZF _) (.bool false);have AF:Below w.heap.size w w7:=ZE (ZE Y7 QQ hb6) QQ hk0;have AB:=(AF.setCell (p:=⟨w6.heap.size,4,none⟩) Qc (.slice a7 n7 c7)).setCell (p:=⟨w6.heap.size,5,none⟩) Qc (.bool false);obtain⟨vsA,g1,g2⟩:=hA.ls;refine .inl ⟨k,⟨by show k<ls.length;rw[Ur.out];exact hkl,hfit,QAG,fun j hj hs hb=>?_⟩,.slice ra rn rc,.slice ta tn tc,.slice a7 n7 c7,Fh,rfl,⟨⟨vsA,g1.imp (fun k hk=>QQ),g2.imp (fun _ _ h=>h.imp (fun k hk=>QQ))⟩,rfl,rfl,hA.XQ.imp (fun k hk=>QQ),hO.jr.imp (fun k hk=>QQ),rfl⟩,nG.imp (fun k hk=>QQ),((((((AB.setCell (p:=⟨w.heap.size+1,0,none⟩) (ZA _) _).setCell (p:=⟨w.heap.size+1,1,none⟩) (ZA _) _).setCell (p:=⟨w.heap.size+1,2,none⟩) (ZA _) _).setCell (p:=⟨w.heap.size+1,3,none⟩) (ZA _) _).setCell (p:=⟨w.heap.size+1,4,none⟩) (ZA _) _).setCell (p:=⟨w.heap.size+1,5,none⟩) (ZA _) _)⟩;exact Kj.out j QA7 hs QAx):p:=h
theorem QCh{p:Prop}(h:p:=by
 have VC:=(qx.other (a:=⟨w6.heap.size,4,none⟩) Qb (.slice a7 n7 c7)).other (a:=⟨w6.heap.size,5,none⟩) Qb (.bool true);have hG:=((((((VC.set 0 (.slice ra rn rc)).set 1 (.int .i64 M)).set 2 (.int .i64 (k:Int))).set 3 (.slice ta tn tc)).set 4 (.slice a7 n7 c7)).set 5 (.bool true));simp only[Zj,Zk,Zu]at hG;obtain⟨y0,y1,y2,y3,y4,y5⟩:=hG.six;obtain⟨nvs,hnv⟩:∃v,Fh=v:=⟨_,rfl⟩;refine ZC (v:=.tuple #[.agg (X3 (.slice ra rn rc) M (k:Int) (.slice ta tn tc) (.slice a7 n7 c7) true),Fh,.int .i64 0]) QW rfl ?_;have hk0:Below w6.heap.size w6 w7:=ZE (ZT w6 _) QJ qz;have kG:=gm.out.below hk0;have hwb:=gp.out.below hk0;have hst:=fun(w':World) (hc:∀p v,(w5.heap.size<=p.block/\p.block<w6.heap.size)->w7.cell? p=some v->w'.cell? p=some v)=>And.intro (kG.keep hc) (hwb.keep hc)
 have hown:=zh.mono (base':=w.heap.size+2) QY;have hk:=fun(p:Addr) (v:Value) (hp:w5.heap.size<=p.block/\p.block<w6.heap.size) (hc:w7.cell? p=some v)=>
  Zr (Zr (Zr (Zr (Zr (Zr (Zr (Zr hc
   (a:=⟨w6.heap.size,4,none⟩) (u:=.slice a7 n7 c7) Qi)
   (a:=⟨w6.heap.size,5,none⟩) (u:=.bool true) Qi)
   (a:=⟨w.heap.size+1,0,none⟩) (u:=.slice ra rn rc) QU)
   (a:=⟨w.heap.size+1,1,none⟩) (u:=.int .i64 M) QU)
   (a:=⟨w.heap.size+1,2,none⟩) (u:=.int .i64 (k:Int)) QU)
   (a:=⟨w.heap.size+1,3,none⟩) (u:=.slice ta tn tc) QU)
   (a:=⟨w.heap.size+1,4,none⟩) (u:=.slice a7 n7 c7) QU)
   (a:=⟨w.heap.size+1,5,none⟩) (u:=.bool true) QU
 obtain⟨hA,nG⟩:=hst _ hk;have hO:=((((((((zh.setCell (a:=⟨w6.heap.size,4,none⟩) QJ (.slice a7 n7 c7)).setCell (a:=⟨w6.heap.size,5,none⟩) QJ (.bool true)).mono (base':=w.heap.size+2) QY).setCell (a:=⟨w.heap.size+1,0,none⟩) (ZF _) (.slice ra rn rc)).setCell (a:=⟨w.heap.size+1,1,none⟩) (ZF _) (.int .i64 M)).setCell (a:=⟨w.heap.size+1,2,none⟩) (ZF _) (.int .i64 (k:Int))).setCell (a:=⟨w.heap.size+1,3,none⟩) (ZF _) (.slice ta tn tc)).setCell (a:=⟨w.heap.size+1,4,none⟩) (ZF _) (.slice a7 n7 c7)).setCell (a:=⟨w.heap.size+1,5,none⟩) (ZF _) (.bool true);have AF:Below w.heap.size w w7:=ZE (ZE Y7 QQ hb6) QQ hk0;have AB:=(AF.setCell (p:=⟨w6.heap.size,4,none⟩) Qc (.slice a7 n7 c7)).setCell (p:=⟨w6.heap.size,5,none⟩) Qc (.bool true);obtain⟨vsA,g1,g2⟩:=hA.ls;refine .inl ⟨k,⟨by show k<ls.length;rw[Ur.out];exact hkl,hfit,QAG,fun j hj hs hb=>?_⟩,.slice ra rn rc,.slice ta tn tc,.slice a7 n7 c7,Fh,rfl,⟨⟨vsA,g1.imp (fun k hk=>QQ),g2.imp (fun _ _ h=>h.imp (fun k hk=>QQ))⟩,rfl,rfl,hA.XQ.imp (fun k hk=>QQ),hO.jr.imp (fun k hk=>QQ),rfl⟩,nG.imp (fun k hk=>QQ),((((((AB.setCell (p:=⟨w.heap.size+1,0,none⟩) (ZA _) _).setCell (p:=⟨w.heap.size+1,1,none⟩) (ZA _) _).setCell (p:=⟨w.heap.size+1,2,none⟩) (ZA _) _).setCell (p:=⟨w.heap.size+1,3,none⟩) (ZA _) _).setCell (p:=⟨w.heap.size+1,4,none⟩) (ZA _) _).setCell (p:=⟨w.heap.size+1,5,none⟩) (ZA _) _)⟩;exact Kj.out j QA7 hs QAx):p:=h
theorem QCi{p:Prop}(h:p:=by
 go_enter Tryz.func89,Tryz.ntmps89
 go_wp2_with (first|(go_at_call 17;refine(YV _ _ _ _ _ _).mono ?_;rintro e w9 ⟨rfl,hb⟩;rw[HP.out];have hX1:=hX.below hb;obtain⟨c0,c1,c2,c3,c4⟩:=hX1.p.five;obtain⟨g0,g1,g2,g3,g4⟩:=hX1.p.Z6;obtain⟨k0,k1,k2,k3,k4⟩:=hX1.q.five;obtain⟨l0,l1,l2,l3,l4⟩:=hX1.q.Z6;obtain⟨m0,m1,m2,m3,m4⟩:=hX1.c.five;obtain⟨n0,n1,n2,n3,n4⟩:=hX1.c.Z6)|(go_at_call 138;refine(YT _ _ _ _ _ _ _).mono ?_;rintro e w8 ⟨rfl,hb2⟩;rw[HK.out];have hX2:=hX1.below hb2;obtain⟨c0,c1,c2,c3,c4⟩:=hX2.p.five;obtain⟨g0,g1,g2,g3,g4⟩:=hX2.p.Z6;obtain⟨k0,k1,k2,k3,k4⟩:=hX2.q.five;obtain⟨l0,l1,l2,l3,l4⟩:=hX2.q.Z6;obtain⟨m0,m1,m2,m3,m4⟩:=hX2.c.five;obtain⟨n0,n1,n2,n3,n4⟩:=hX2.c.Z6)|(go_at_call 140;refine(UZ _ _ _ _ _ _ _ _ b1 b2 b3 b4).mono ?_;rintro e w7 ⟨rfl,hb3⟩;have xY:=hX2.below hb3;obtain⟨c0,c1,c2,c3,c4⟩:=xY.p.five;obtain⟨g0,g1,g2,g3,g4⟩:=xY.p.Z6;obtain⟨k0,k1,k2,k3,k4⟩:=xY.q.five;obtain⟨l0,l1,l2,l3,l4⟩:=xY.q.Z6;obtain⟨m0,m1,m2,m3,m4⟩:=xY.c.five;obtain⟨n0,n1,n2,n3,n4⟩:=xY.c.Z6))
 obtain⟨hq,hc,hbel⟩:=xY.done (.int .i64 (0)) (.int .i64 (0)) (.int .i64 (0)) (.int .i64 (0)) (.int .i64 (0)) (.int .i64 (WE f s)) (.int .i64 (r)) (.int .i64 (o)) (.int .i64 (key)) (.int .i64 (0)) rfl;obtain⟨y0,y1,y2,y3,y4⟩:=hq.five;obtain⟨z0,z1,z2,z3,z4⟩:=hc.five;exact ZC (v:=.tuple #[(TK.done f r o s key 0).q,(TK.done f r o s key 0).c,.int .i64 2,.int .i64 0]) Qvg rfl (XB.of hbel)):p:=h
theorem QCl{p:Prop}(h:p:=by
 go_wp2;go_meet;change∃us,Vs (zX.alloc (.cells #[.slice xB xu xA,.slice KU KY KJ] 26)) (.slice (some ⟨zX.heap.size,0,none⟩) 2 2) us/\Lists (zX.alloc (.cells #[.slice xB xu xA,.slice KU KY KJ] 26)) us _/\Below V4.heap.size V4 (zX.alloc (.cells #[.slice xB xu xA,.slice KU KY KJ] 26));exact⟨[.slice xB xu xA,.slice KU KY KJ],⟨_,2,2,rfl,rfl,QZ,QZ,JE _ [.slice xB xu xA,.slice KU KY KJ] _,fun h=>QBX⟩,(Lists.one (aC.below (ZT _ _))).append (Lists.one (aB.below (ZT _ _))),hbW.alloc hbW.size _⟩):p:=h
theorem QCm{p:Prop}(h:p:=by
 go_meet;change∃us,Vs (zX.alloc (.cells #[.slice xB xu xA,.slice KU KY KJ] 26)) (.slice (some ⟨zX.heap.size,0,none⟩) 2 2) us/\Lists (zX.alloc (.cells #[.slice xB xu xA,.slice KU KY KJ] 26)) us _/\Below V4.heap.size V4 (zX.alloc (.cells #[.slice xB xu xA,.slice KU KY KJ] 26));exact⟨[.slice xB xu xA,.slice KU KY KJ],⟨_,2,2,rfl,rfl,QZ,QZ,JE _ [.slice xB xu xA,.slice KU KY KJ] _,fun h=>QBX⟩,(Lists.one (aC.below (ZT _ _))).append (Lists.one (aB.below (ZT _ _))),hbW.alloc hbW.size _⟩):p:=h
theorem QCn{p:Prop}(h:p:=by
 have bg:(some pq:Option (Int×Int)).isSome=true:=rfl;clear hk;go_wp2_with (go_at_call 247;refine(HS.out _).mono ?_;rintro e w8 ⟨rfl,XF⟩;have JY:=HX.out.to XF;have g29:=JY.YE;have g30:=JY.UB;have g31:=JY.c31;have g32:=JY.c32;have g33:=JY.Kr;have k29:=JY.free 29;have sM:=JY.free 30;have sI:=JY.free 31;have k32:=JY.free 32;have k33:=JY.free 33;have Mi:=JY.lt;have O0:=Zy JY;have qY:=Zy XF;clear XF JY)
 go_meet;exact⟨rfl,⟨_,QM⟩,((Yx.of qY.out).trans (Yx.setCells c'.cells)).trans (Yx.of (ZT _ _))⟩):p:=h
theorem QCo{p:Prop}(h:p:=by
 first|exact(hacc.setCell (p:=⟨w.heap.size+1,0,none⟩) (ZA _) _).setCell (p:=⟨w.heap.size+1,1,none⟩) (ZA _) _|exact Zn _ _ _):p:=h
theorem QCp{p:Prop}(h:p:=by
 change∃us,Vs (zX.alloc (.cells #[.slice xB xu xA,.slice KU KY KJ] 26)) (.slice (some ⟨zX.heap.size,0,none⟩) 2 2) us/\Lists (zX.alloc (.cells #[.slice xB xu xA,.slice KU KY KJ] 26)) us _/\Below V4.heap.size V4 (zX.alloc (.cells #[.slice xB xu xA,.slice KU KY KJ] 26));exact⟨[.slice xB xu xA,.slice KU KY KJ],⟨_,2,2,rfl,rfl,QZ,QZ,JE _ [.slice xB xu xA,.slice KU KY KJ] _,fun h=>QBX⟩,(Lists.one (aC.below (ZT _ _))).append (Lists.one (aB.below (ZT _ _))),hbW.alloc hbW.size _⟩):p:=h
theorem QCr{p:Prop}(h:p:=by
 obtain⟨c0,c1,c2,c3,c4⟩:=hC.five;obtain⟨p0,p1,-,-⟩:=hF.two;obtain⟨m0,m1,m2,q0,q1,q2⟩:=hM.three;obtain⟨d0,d1,d2,g0,g1,g2⟩:=hR.three;obtain⟨l0,l1,t0,t1⟩:=hL.two;have HF:=Zy (show _/\_/\_ from⟨((((hR.set 0 (.int .i64 mk)).set 1 (.int .i64 mn)).set 2 (.int .i64 mg)).other (a:=⟨w.heap.size+3,0,none⟩) (show w.heap.size+2≠w.heap.size+3 from QQ) (.int .i64 fk)).other (a:=⟨w.heap.size+3,1,none⟩) (show w.heap.size+2≠w.heap.size+3 from QQ) (.int .i64 fa),((((hL.other (a:=⟨w.heap.size+2,0,none⟩) (show w.heap.size+3≠w.heap.size+2 from QQ) (.int .i64 mk)).other (a:=⟨w.heap.size+2,1,none⟩) (show w.heap.size+3≠w.heap.size+2 from QQ) (.int .i64 mn)).other (a:=⟨w.heap.size+2,2,none⟩) (show w.heap.size+3≠w.heap.size+2 from QQ) (.int .i64 mg)).set 0 (.int .i64 fk)).set 1 (.int .i64 fa),(((((hb.setCell (p:=⟨w.heap.size+2,0,none⟩) QV (.int .i64 mk)).setCell (p:=⟨w.heap.size+2,1,none⟩) QV (.int .i64 mn)).setCell (p:=⟨w.heap.size+2,2,none⟩) QV (.int .i64 mg)).setCell (p:=⟨w.heap.size+3,0,none⟩) QD (.int .i64 fk)).setCell (p:=⟨w.heap.size+3,1,none⟩) QD (.int .i64 fa))⟩);have I9:=Zy (show _/\_/\_ from⟨((((hR.other (a:=⟨w.heap.size+3,0,none⟩) (show w.heap.size+2≠w.heap.size+3 from QQ) (.int .i64 fk)).other (a:=⟨w.heap.size+3,1,none⟩) (show w.heap.size+2≠w.heap.size+3 from QQ) (.int .i64 fa)).set 0 (.int .i64 mk)).set 1 (.int .i64 mn)).set 2 (.int .i64 mg),((((hL.set 0 (.int .i64 fk)).set 1 (.int .i64 fa)).other (a:=⟨w.heap.size+2,0,none⟩) (show w.heap.size+3≠w.heap.size+2 from QQ) (.int .i64 mk)).other (a:=⟨w.heap.size+2,1,none⟩) (show w.heap.size+3≠w.heap.size+2 from QQ) (.int .i64 mn)).other (a:=⟨w.heap.size+2,2,none⟩) (show w.heap.size+3≠w.heap.size+2 from QQ) (.int .i64 mg),(((((hb.setCell (p:=⟨w.heap.size+3,0,none⟩) QD (.int .i64 fk)).setCell (p:=⟨w.heap.size+3,1,none⟩) QD (.int .i64 fa)).setCell (p:=⟨w.heap.size+2,0,none⟩) QV (.int .i64 mk)).setCell (p:=⟨w.heap.size+2,1,none⟩) QV (.int .i64 mn)).setCell (p:=⟨w.heap.size+2,2,none⟩) QV (.int .i64 mg))⟩);have HQ:=Zy hQ;clear hF hC hM hR hL hb hQ
 conv=>arg 2;whnf
 go_region
 all_goals
  first
   | exact HQ.out _ _ _ ⟨HF.out.1,HF.out.2.1,HF.out.2.2.drew⟩
   | exact HQ.out _ _ _ ⟨I9.out.1,I9.out.2.1,I9.out.2.2.drew⟩):p:=h
theorem QCs{p:Prop}(h:p:=by
 clear hk;go_wp2_with (go_at_call 247;refine(HS.out _).mono ?_;rintro e w8 ⟨rfl,XF⟩;have JY:=HX.out.to XF;have g29:=JY.YE;have g30:=JY.UB;have g31:=JY.c31;have g32:=JY.c32;have g33:=JY.Kr;have k29:=JY.free 29;have sM:=JY.free 30;have sI:=JY.free 31;have k32:=JY.free 32;have k33:=JY.free 33;have Mi:=JY.lt;have O0:=Zy JY;have qY:=Zy XF;clear XF JY)
 go_meet;exact⟨rfl,⟨_,QM⟩,((Yx.of qY.out).trans (Yx.setCells c'.cells)).trans (Yx.of (ZT _ _))⟩):p:=h
theorem QCt{p:Prop}(h:p:=by
 clear hin hno;go_wp2;have hG:=((((((hRr.set 0 (.slice none 0 0)).set 1 (.int .i64 0)).set 2 (.int .i64 0)).set 3 (.slice none 0 0)).set 4 (.slice none 0 0)).set 5 (.bool false));simp only[Zj,Zk,Zu]at hG;obtain⟨y0,y1,y2,y3,y4,y5⟩:=hG.six;refine ZC (v:=.tuple #[.agg (X3 (.slice none 0 0) 0 0 (.slice none 0 0) (.slice none 0 0) false),.slice none 0 0,.int .i64 (5)]) QW rfl ?_;exact .inr ⟨HN.out,_,_,_,_,rfl,xX _ _,Yf.nil _ _,((((((JM.setCell (p:=⟨w.heap.size+1,0,none⟩) (ZA _) _).setCell (p:=⟨w.heap.size+1,1,none⟩) (ZA _) _).setCell (p:=⟨w.heap.size+1,2,none⟩) (ZA _) _).setCell (p:=⟨w.heap.size+1,3,none⟩) (ZA _) _).setCell (p:=⟨w.heap.size+1,4,none⟩) (ZA _) _).setCell (p:=⟨w.heap.size+1,5,none⟩) (ZA _) _)⟩):p:=h
theorem QC0{p:Prop}(h:p:=by
 go_wp2_with (go_at_call 247;refine(HS.out _).mono ?_;rintro e w8 ⟨rfl,XF⟩;have JY:=HX.out.to XF;have g29:=JY.YE;have g30:=JY.UB;have g31:=JY.c31;have g32:=JY.c32;have g33:=JY.Kr;have k29:=JY.free 29;have sM:=JY.free 30;have sI:=JY.free 31;have k32:=JY.free 32;have k33:=JY.free 33;have Mi:=JY.lt;have O0:=Zy JY;have qY:=Zy XF;clear XF JY)
 go_meet;exact⟨rfl,⟨_,QM⟩,((Yx.of qY.out).trans (Yx.setCells c'.cells)).trans (Yx.of (ZT _ _))⟩):p:=h
theorem QC1{p:Prop}(h:p:=by
 have hS0:(V2.drew.cell? ⟨B3,0,none⟩=some (.slice (some ⟨bb1,V6,none⟩) n cb)/\V2.drew.cell? ⟨B2,1,none⟩=some (.int .i64 (pa:Int))/\V2.drew.cell? ⟨B3,1,none⟩=some (.int .i64 (pb:Int))/\Below V2.heap.size V2 V2.drew):=⟨q0,q1,q2,(ZH _ _).drew⟩
 go_region_law (first|(go_simp;go_at_call 149;((with_reducible refine(KQ B2 B3 (some ⟨bb1,V6,none⟩) n cb pa _ (ps0 ‹_›) (ps1 ‹_›)).mono ?_);rintro e w4 ⟨J4,rfl,Ct,nD,hb4⟩;have J3:V2.heap.size<=J4:=Zh (Cb ‹_›) Ct;have gI:=Ym ‹_› Yz Yq hb4 (Cb ‹_›);have hT:=gI;obtain⟨r0,r1,r2,-⟩:=hT))|(go_simp;go_at_call 153;((with_reducible refine(KV J4 J4 0 (some ⟨bb1,V6,none⟩) n cb pa P B _ _ ((kK.out.JZ (Kv ‹_›)).imp (fun q hq=>Zc hq J3)) nD QQ QQ hn QZ).mono ?_);rintro e w5 ⟨rfl,nC,hb5,Ry⟩;have hS5:=Ym ‹_› Yz Yq hb5 J3;have hT:=hS5;obtain⟨r0,r1,r2,-⟩:=hT))|(go_simp;go_at_call 151;((with_reducible refine(JU J4 J4 2 (some ⟨bb1,V6,none⟩) n cb P pb B _ _ ((kK.out.JZ (Kv ‹_›)).imp (fun q hq=>Zc hq J3)) nC QQ hpb hn QZ).mono ?_);rintro e w6 ⟨rfl,hJ6,hb6,mh⟩;have nk:=Ym ‹_› Yz Yq hb6 J3;have hT:=nk;obtain⟨r0,r1,r2,-⟩:=hT;obtain⟨il,Wh,tX,QKY,hl6⟩:=hJ6;obtain⟨-,-,k6,-⟩:=Wh.three;obtain⟨Sd,Sb,Sc,rfl⟩:=tX.form)))
 all_goals
  have hbW:Below V2.heap.size V2 w6:=Kv ‹_›;have hSl:=tX.sl;go_wp2;go_meet;change∃us,Vs (w6.alloc (.cells #[.slice Sd Sb Sc] 26)) (.slice (some ⟨w6.heap.size,0,none⟩) 1 1) us/\Lists (w6.alloc (.cells #[.slice Sd Sb Sc] 26)) us _/\Below V2.heap.size V2 (w6.alloc (.cells #[.slice Sd Sb Sc] 26));exact⟨[.slice Sd Sb Sc],⟨_,1,1,rfl,rfl,QZ,QZ,JE _ [.slice Sd Sb Sc] _,fun h=>QBX⟩,Lists.one (hSl.below (ZT _ _)),hbW.alloc hbW.size _⟩):p:=h
theorem QC2{p:Prop}(h:p:=by
 go_wp2;have hG:=((((((BK.set 0 (.slice ra rn rc)).set 1 (.int .i64 M)).set 2 (.int .i64 (wh:Int))).set 3 (.slice a4 n4 xD)).set 4 (.slice ua un uc)).set 5 (.bool O));simp only[Zj,Zk,Zu]at hG;obtain⟨y0,y1,y2,y3,y4,y5⟩:=hG.six;have yz:Below w.heap.size w w9:=ZE Ua.drew QAq Jv;have hO9:kS (w.heap.size+2) w9 (.slice ra rn rc) (.slice a4 n4 xD) (.slice ua un uc) ls xs pat:=by
  have h1:=kS.kept (w:=w5) SC.out (w':=w5.drew) (ZH _ _).drew;have h2:=h1.kept Jv;have h3:=Own.kept (w:=w5) p9.out (w':=w5.drew) (ZH _ _).drew;exact⟨h2.row,h3.kept Jv,h2.pat⟩
 have Mw:=(((((hO9.setCell (a:=⟨w.heap.size+1,0,none⟩) (ZF _) (.slice ra rn rc)).setCell (a:=⟨w.heap.size+1,1,none⟩) (ZF _) (.int .i64 M)).setCell (a:=⟨w.heap.size+1,2,none⟩) (ZF _) (.int .i64 (wh:Int))).setCell (a:=⟨w.heap.size+1,3,none⟩) (ZF _) (.slice a4 n4 xD)).setCell (a:=⟨w.heap.size+1,4,none⟩) (ZF _) (.slice ua un uc)).setCell (a:=⟨w.heap.size+1,5,none⟩) (ZF _) (.bool O);have vL:=vM.mono (base':=w.heap.size+2) QAY;have VD:=(((((vL.setCell (a:=⟨w.heap.size+1,0,none⟩) (ZF _) (.slice ra rn rc)).setCell (a:=⟨w.heap.size+1,1,none⟩) (ZF _) (.int .i64 M)).setCell (a:=⟨w.heap.size+1,2,none⟩) (ZF _) (.int .i64 (wh:Int))).setCell (a:=⟨w.heap.size+1,3,none⟩) (ZF _) (.slice a4 n4 xD)).setCell (a:=⟨w.heap.size+1,4,none⟩) (ZF _) (.slice ua un uc)).setCell (a:=⟨w.heap.size+1,5,none⟩) (ZF _) (.bool O);refine ZC (v:=.tuple #[.agg (X3 (.slice ra rn rc) M (wh:Int) (.slice a4 n4 xD) (.slice ua un uc) O),.slice a9 n9 c9,.int .i64 0]) ZU rfl ?_;rw[HTH.out];exact⟨.slice ra rn rc,(.slice a4 n4 xD),.slice ua un uc,.slice a9 n9 c9,rfl,(Mw.hip _ _ _).imp (fun k hk=>QQ),VD.jr.imp (fun k hk=>QQ),(((((yz.setCell (ZA _) _).setCell (ZA _) _).setCell (ZA _) _).setCell (ZA _) _).setCell (ZA _) _).setCell (ZA _) _⟩):p:=h
theorem QC3{p:Prop}(h:p:=by
 go_wp2;have hG:=((((((BK.set 0 (.slice ra rn rc)).set 1 (.int .i64 M)).set 2 (.int .i64 (wh:Int))).set 3 (.slice ta tn tc)).set 4 (.slice ua un uc)).set 5 (.bool O));simp only[Zj,Zk,Zu]at hG;obtain⟨y0,y1,y2,y3,y4,y5⟩:=hG.six;have yz:Below w.heap.size w w9:=ZE Ua.drew QAq Jv;have hO9:kS (w.heap.size+2) w9 (.slice ra rn rc) (.slice ta tn tc) (.slice ua un uc) ls XQ pat:=by
  have h1:=kS.kept (w:=w5) SC.out (w':=w5.drew) (ZH _ _).drew;have h2:=h1.kept Jv;have h3:=Own.kept (w:=w5) p9.out (w':=w5.drew) (ZH _ _).drew;exact⟨h2.row,h3.kept Jv,h2.pat⟩
 have Mw:=(((((hO9.setCell (a:=⟨w.heap.size+1,0,none⟩) (ZF _) (.slice ra rn rc)).setCell (a:=⟨w.heap.size+1,1,none⟩) (ZF _) (.int .i64 M)).setCell (a:=⟨w.heap.size+1,2,none⟩) (ZF _) (.int .i64 (wh:Int))).setCell (a:=⟨w.heap.size+1,3,none⟩) (ZF _) (.slice ta tn tc)).setCell (a:=⟨w.heap.size+1,4,none⟩) (ZF _) (.slice ua un uc)).setCell (a:=⟨w.heap.size+1,5,none⟩) (ZF _) (.bool O);have vL:=vM.mono (base':=w.heap.size+2) QAY;have VD:=(((((vL.setCell (a:=⟨w.heap.size+1,0,none⟩) (ZF _) (.slice ra rn rc)).setCell (a:=⟨w.heap.size+1,1,none⟩) (ZF _) (.int .i64 M)).setCell (a:=⟨w.heap.size+1,2,none⟩) (ZF _) (.int .i64 (wh:Int))).setCell (a:=⟨w.heap.size+1,3,none⟩) (ZF _) (.slice ta tn tc)).setCell (a:=⟨w.heap.size+1,4,none⟩) (ZF _) (.slice ua un uc)).setCell (a:=⟨w.heap.size+1,5,none⟩) (ZF _) (.bool O);refine ZC (v:=.tuple #[.agg (X3 (.slice ra rn rc) M (wh:Int) (.slice ta tn tc) (.slice ua un uc) O),.slice a9 n9 c9,.int .i64 0]) ZU rfl ?_;rw[HTH.out];exact⟨.slice ra rn rc,(.slice ta tn tc),.slice ua un uc,.slice a9 n9 c9,rfl,(Mw.hip _ _ _).imp (fun k hk=>QQ),VD.jr.imp (fun k hk=>QQ),(((((yz.setCell (ZA _) _).setCell (ZA _) _).setCell (ZA _) _).setCell (ZA _) _).setCell (ZA _) _).setCell (ZA _) _⟩):p:=h
theorem QC4{p:Prop}(h:p:=by
 go_enter Tryz.func145,Tryz.ntmps145
 go_upto_region 1 with fail
 change Code.wp _ _ _ _ ((w.alloc (.cells #[.slice la ln lc,.int .i64 M,.int .i64 W,.slice sa sn sc,.slice pa pn pc,.bool O] 65)).alloc (.cells #[.slice none 0 0,.int .i64 0,.int .i64 0,.slice none 0 0,.slice none 0 0,.bool false] 65));generalize((w.alloc (.cells #[.slice la ln lc,.int .i64 M,.int .i64 W,.slice sa sn sc,.slice pa pn pc,.bool O] 65)).alloc (.cells #[.slice none 0 0,.int .i64 0,.int .i64 0,.slice none 0 0,.slice none 0 0,.bool false] 65))=w1 at *;obtain⟨c0,c1,c2,c3,c4,c5⟩:=hB.six;go_wp2_with ((go_at_call 191);refine(V7.out _ HR1.out).mono ?_;rintro e w2 ⟨rfl,hb2⟩;rw[HE.out];have hB2:=hB.below hb2 hB.lt;obtain⟨d0,d1,d2,d3,d4,d5⟩:=hB2.six;have hR2:=hR.below hb2 hR.lt;obtain⟨p0,p1,p2,p3,p4,p5⟩:=hR2.six;obtain⟨t0,t1,t2,t3,t4,t5⟩:=hR2.Yy;have Z4:=ZE hacc QQ hb2;have hlt2:=hB2.lt;have hz2:=hb2.size;have HR2:=Zy (HR1.out.below hb2);have hx2:=hx.below Z4)
 refine(I7.out _ HR2.out hx2).mono ?_;rintro e w3 ⟨lv3,sv3,pv3,P5,rfl,hp3,kZ,hb3⟩;obtain⟨vs3,⟨ra,rn,rc,rfl,-⟩,-⟩:=hp3.ls;obtain⟨ta,tn,tc,rfl⟩:=hp3.XQ.form;obtain⟨ua,un,uc,rfl⟩:=hp3.pat.form;have Vr:=hR2.below hb3 hR2.lt;obtain⟨q0,q1,q2,q3,q4,q5⟩:=Vr.six;obtain⟨v0,v1,v2,v3,v4,v5⟩:=Vr.Yy;have Ji:=ZE Z4 QQ hb3;have LC:=Zy hp3;have FO:=Zy kZ;simp only[X3,zJ];clear hp3 kZ;go_wp2;obtain⟨y0,y1,y2,y3,y4,y5⟩:=(Vr.six' (.slice ra rn rc) (.int .i64 M) (.int .i64 (wh:Int)) (.slice ta tn tc) (.slice ua un uc) (.bool O)).six;refine ZC (v:=.tuple #[.agg (X3 (.slice ra rn rc) M (wh:Int) (.slice ta tn tc) (.slice ua un uc) O),P5,.int .i64 0]) ZW rfl ?_;exact⟨_,_,_,_,rfl,(LC.out.six QQ).imp (fun k hk=>QQ),(FO.out.six QQ).imp (fun k hk=>QQ),Jd Ji QQ⟩):p:=h
theorem QC5{p:Prop}(h:p:=by
 go_enter Tryz.func146,Tryz.ntmps146
 go_upto_region 1 with fail
 change Code.wp _ _ _ _ ((w.alloc (.cells #[.slice la ln lc,.int .i64 M,.int .i64 W,.slice sa sn sc,.slice pa pn pc,.bool O] 65)).alloc (.cells #[.slice none 0 0,.int .i64 0,.int .i64 0,.slice none 0 0,.slice none 0 0,.bool false] 65));generalize((w.alloc (.cells #[.slice la ln lc,.int .i64 M,.int .i64 W,.slice sa sn sc,.slice pa pn pc,.bool O] 65)).alloc (.cells #[.slice none 0 0,.int .i64 0,.int .i64 0,.slice none 0 0,.slice none 0 0,.bool false] 65))=w1 at *;obtain⟨c0,c1,c2,c3,c4,c5⟩:=hB.six;go_wp2_with ((go_at_call 191);refine(V7.out _ HR1.out).mono ?_;rintro e w2 ⟨rfl,hb2⟩;rw[HE.out];have hB2:=hB.below hb2 hB.lt;obtain⟨d0,d1,d2,d3,d4,d5⟩:=hB2.six;have hR2:=hR.below hb2 hR.lt;obtain⟨p0,p1,p2,p3,p4,p5⟩:=hR2.six;obtain⟨t0,t1,t2,t3,t4,t5⟩:=hR2.Yy;have Z4:=ZE hacc QQ hb2;have hlt2:=hB2.lt;have hz2:=hb2.size;have HR2:=Zy (HR1.out.below hb2);have hx2:=hx.below Z4)
 refine(I7.out _ HR2.out hx2).mono ?_;rintro e w3 ⟨lv3,sv3,pv3,P5,rfl,hp3,kZ,hb3⟩;obtain⟨vs3,⟨ra,rn,rc,rfl,-⟩,-⟩:=hp3.ls;obtain⟨ta,tn,tc,rfl⟩:=hp3.XQ.form;obtain⟨ua,un,uc,rfl⟩:=hp3.pat.form;have Vr:=hR2.below hb3 hR2.lt;obtain⟨q0,q1,q2,q3,q4,q5⟩:=Vr.six;obtain⟨v0,v1,v2,v3,v4,v5⟩:=Vr.Yy;have Ji:=ZE Z4 QQ hb3;have LC:=Zy hp3;have FO:=Zy kZ;simp only[X3,zJ];clear hp3 kZ;go_wp2;obtain⟨y0,y1,y2,y3,y4,y5⟩:=(Vr.six' (.slice ra rn rc) (.int .i64 M) (.int .i64 (wh:Int)) (.slice ta tn tc) (.slice ua un uc) (.bool O)).six;refine ZC (v:=.tuple #[.agg (X3 (.slice ra rn rc) M (wh:Int) (.slice ta tn tc) (.slice ua un uc) O),P5,.int .i64 0]) ZV rfl ?_;exact⟨_,_,_,_,rfl,(LC.out.six QQ).imp (fun k hk=>QQ),(FO.out.six QQ).imp (fun k hk=>QQ),Jd Ji QQ⟩):p:=h
theorem QC6{p:Prop}(h:p:=by
 go_enter Tryz.func147,Tryz.ntmps147
 go_upto_region 1 with fail
 change Code.wp _ _ _ _ ((w.alloc (.cells #[.slice la ln lc,.int .i64 M,.int .i64 W,.slice sa sn sc,.slice pa pn pc,.bool O] 65)).alloc (.cells #[.slice none 0 0,.int .i64 0,.int .i64 0,.slice none 0 0,.slice none 0 0,.bool false] 65));generalize((w.alloc (.cells #[.slice la ln lc,.int .i64 M,.int .i64 W,.slice sa sn sc,.slice pa pn pc,.bool O] 65)).alloc (.cells #[.slice none 0 0,.int .i64 0,.int .i64 0,.slice none 0 0,.slice none 0 0,.bool false] 65))=w1 at *;obtain⟨c0,c1,c2,c3,c4,c5⟩:=hB.six;go_wp2_with ((go_at_call 191);refine(V7.out _ HR1.out).mono ?_;rintro e w2 ⟨rfl,hb2⟩;rw[HE.out];have hB2:=hB.below hb2 hB.lt;obtain⟨d0,d1,d2,d3,d4,d5⟩:=hB2.six;have hR2:=hR.below hb2 hR.lt;obtain⟨p0,p1,p2,p3,p4,p5⟩:=hR2.six;obtain⟨t0,t1,t2,t3,t4,t5⟩:=hR2.Yy;have Z4:=ZE hacc QQ hb2;have hlt2:=hB2.lt;have hz2:=hb2.size;have HR2:=Zy (HR1.out.below hb2);have hx2:=hx.below Z4)
 refine(I7.out _ HR2.out hx2).mono ?_;rintro e w3 ⟨lv3,sv3,pv3,P5,rfl,hp3,kZ,hb3⟩;obtain⟨vs3,⟨ra,rn,rc,rfl,-⟩,-⟩:=hp3.ls;obtain⟨ta,tn,tc,rfl⟩:=hp3.XQ.form;obtain⟨ua,un,uc,rfl⟩:=hp3.pat.form;have Vr:=hR2.below hb3 hR2.lt;obtain⟨q0,q1,q2,q3,q4,q5⟩:=Vr.six;obtain⟨v0,v1,v2,v3,v4,v5⟩:=Vr.Yy;have Ji:=ZE Z4 QQ hb3;have LC:=Zy hp3;have FO:=Zy kZ;simp only[X3,zJ];clear hp3 kZ;go_wp2;obtain⟨y0,y1,y2,y3,y4,y5⟩:=(Vr.six' (.slice ra rn rc) (.int .i64 M) (.int .i64 (0:Int)) (.slice ta tn tc) (.slice ua un uc) (.bool O)).six;refine ZC (v:=.tuple #[.agg (X3 (.slice ra rn rc) M (0:Int) (.slice ta tn tc) (.slice ua un uc) O),P5,.int .i64 0]) Qg rfl ?_;exact⟨_,_,_,_,rfl,(LC.out.six QQ).imp (fun k hk=>QQ),(FO.out.six QQ).imp (fun k hk=>QQ),Jd Ji QQ⟩):p:=h
theorem QC7{p:Prop}(h:p:=by
 have e1:=hc1 k QA5;obtain⟨xa,xn,xc,x1,x2,x3,x4,x5,x6⟩:=hls.sl k ZY;have HSK:=Zy (hls.sl k ZY);rw[x1]at e1;have pM:=Zy x2;have HX1:=Zy x1;have hnew:KZ BB (X.take (k+1))=Jc (KZ BB (X.take k)) (rx X k):=by rw[WG ZY,Ar]
 have fe:=Zy hnew;clear hc1 x1 x2 x3 x4 x5 x6 hnew;by_cases hbt:xn<nb3
 ·have i1:(xn:Int)<(nb3:Int):=by omega
  go_wp2;go_roundw
  case rel=>
   refine⟨k+1,Qk,QQ,?_,_,rfl⟩;rw[fe.out];unfold Jc;rw[if_pos QAH,<-HX1.out];exact HSK.out.drewN m
  case measure=>simp[intOf];omega
 ·have i1:¬(xn:Int)<(nb3:Int):=by omega
  go_wp2;go_roundw
  case rel=>
   refine⟨k+1,Qk,QQ,?_,_,rfl⟩;rw[fe.out];unfold Jc;rw[if_neg QAH];exact HBK.out
  case measure=>simp[intOf];omega):p:=h
theorem QC8{p:Prop}(h:p:=by
 rcases rr with _|⟨y,t⟩
 ·simp at h
 ·exact⟨y,t,rfl⟩):p:=h
theorem QC9{p:Prop}(h:p:=by
 go_wp2;go_meet;exact⟨rfl,rfl,rfl⟩):p:=h
theorem QCw{p:Prop}(h:p:=by
 have bg:(none:Option (Int×Int)).isSome=false:=rfl;have HK:=Zy hk;clear hk;go_wp2_with (go_at_call 247;refine(HS.out _).mono ?_;rintro e w8 ⟨rfl,XF⟩;have qY:=Zy XF;clear XF)
 go_meet;exact⟨rfl,⟨us,Qu⟩,(Yx.of qY.out).trans (Yx.of (ZT _ _))⟩):p:=h
theorem QDQ{p:Prop}(h:p:=by
 refine hK.out _ _ (qM hB1 hS1 UM) (fun hHeld=>?_);clear hK K;refine Zl (rs:=[29]) QX QJ ?_;refine ZO (o:=⟨some 37,_,_,_,_,_⟩) rfl (fun K hK=>?_) Zg;go_simp;refine(HCL.out _ UM).mono ?_;rintro e w8 ⟨v8,rfl,o8,XF⟩;obtain⟨a8,n8,k8,rfl⟩:=o8.form;have sF:=o8.mono UM.size;replace LJ:=LJ.kept XF;replace FJ:=FJ.YP XF;replace UM:=UM.trans (XF.mono UM.size);dsimp only;refine hK.out _ _ (qM hB1 hS1 UM) (fun hHeld=>?_);clear hK K;refine ZP 35 ⟨some 43,_,_,_,_,_⟩ ((.agg #[.slice a8 n8 k8,.int .i64 S.rat])) ?_;simp only[Act.put,Zj,Zk,Zu];obtain⟨rs,hrs⟩:∃rs,rs=qL (.slice a5 n5 k5) S n43 (.slice a8 n8 k8):=⟨_,rfl⟩;have Cq:=Zy hrs;clear hrs;refine wpAnyH_take (i:=40) (oi:=⟨some 48,_,_,_,_,_⟩) (v:=(.agg (XP rs))) rfl QX QX QX (fun _ _ _ h=>h) (Or.inl ⟨QAQ,fun w hSw=>Q8⟩) QH ?_;simp only[Act.put,Zj,Zk,Zu];refine Zl (rs:=[42]) QX QJ ?_;refine ZO (o:=⟨none,_,_,_,_,_⟩) rfl (fun K hK=>?_) Zg;rw[if_pos QAQ];refine Vb _ _ rfl R rfl rs rfl FJ.Dn (by rw[Cq.out];rfl) QAr ?_;simp only[Act.put,Zj,Zk,Zu];refine hK.out _ _ (qM hB1 hS1 (below_setCells AL _ 0 UM)) (fun hHeld=>?_);clear hK K;refine Ya QX ?_ _;go_wp2;go_meet;exact⟨_,_,_,rfl,QAw⟩):p:=h
theorem QDZ{p:Prop}(h:p:=by
 clear hK K;refine Zl (rs:=[20]) QX QJ ?_;refine ZO (o:=⟨some 27,_,_,_,_,_⟩) rfl (fun K hK=>?_) Zg;go_simp;refine(qC _ _ _ _ _).mono ?_;rintro e w6 ⟨rfl,rfl⟩;rw[HVS.out];refine hK.out _ _ QH (fun hHeld=>?_);clear hK K;refine ZP 21 ⟨some 6,.move (.tmp 27),_,_,_,_⟩ ((.tuple #[.int .i64 (XE S.pos S.off S.width),.int .i64 0])) ?_;simp only[Act.put,Zj,Zk,Zu];refine ZP 22 ⟨some 28,.extract (.tmp 6) 0,_,_,_,_⟩ ((.int .i64 (XE S.pos S.off S.width))) ?_;simp only[Act.put,Zj,Zk,Zu];refine ZP 23 ⟨some 29,.extract (.tmp 6) 1,_,_,_,_⟩ ((.int .i64 0)) ?_;simp only[Act.put,Zj,Zk,Zu];refine ZP 24 ⟨some 30,.nilCheck (.tmp 7),_,_,_,_⟩ ((.pointer (some ⟨B,0,none⟩))) ?_;simp only[Act.put,Zj,Zk,Zu];refine ZP 25 ⟨some 31,.fieldAddr 112 (.tmp 30) 13,_,_,_,_⟩ ((.pointer (some ⟨B,51,none⟩))) ?_;simp only[Act.put,Zj,Zk,Zu];refine Zl (rs:=[26]) QX QJ ?_;refine ZO (o:=⟨none,_,_,_,_,_⟩) rfl (fun K hK=>?_) Zg;go_simp;refine hK.out _ _ ⟨x0s,x1s,QQC⟩ (fun hHeld=>?_);clear hK K;refine Ya QX ?_ _;go_wp2;go_meet;exact⟨rfl,F,_,hA2.store 51 (.int .i64 (XE S.pos S.off S.width)) {hA2.hf.d with off:=rfl}⟩):p:=h
theorem QDX{p:Prop}(h:p:=by
 have TU:=Zy qb;clear hfit;go_wp2_with ((go_at_call 192);refine(fw.out _ hq x5).mono ?_;rintro e w5 ⟨rfl,hb5⟩;rw[qb])
 go_roundw
 case rel=>exact⟨_,rfl,QQ,fun j hj hs hb=>by
  rcases XC j k with h|h|h
  ·exact Kj.out j hj hs QQ
  ·subst h;exact TU.out
  ·exact Kj.out j hj hs QQ,ZE hbr QQ hb5⟩
 case measure=>simp[intOf];omega):p:=h
theorem QDY{p:Prop}(h:p:=by
 go_enter Tryz.func89,Tryz.ntmps89
 go_wp2_with (first|(go_at_call 17;refine(YV _ _ _ _ _ _).mono ?_;rintro e w9 ⟨rfl,hb⟩;rw[HP.out];have hX1:=hX.below hb;obtain⟨c0,c1,c2,c3,c4⟩:=hX1.p.five;obtain⟨g0,g1,g2,g3,g4⟩:=hX1.p.Z6;obtain⟨k0,k1,k2,k3,k4⟩:=hX1.q.five;obtain⟨l0,l1,l2,l3,l4⟩:=hX1.q.Z6;obtain⟨m0,m1,m2,m3,m4⟩:=hX1.c.five;obtain⟨n0,n1,n2,n3,n4⟩:=hX1.c.Z6)|(go_at_call 138;refine(YT _ _ _ _ _ _ _).mono ?_;rintro e w8 ⟨rfl,hb2⟩;rw[HK.out];have hX2:=hX1.below hb2;obtain⟨c0,c1,c2,c3,c4⟩:=hX2.p.five;obtain⟨g0,g1,g2,g3,g4⟩:=hX2.p.Z6;obtain⟨k0,k1,k2,k3,k4⟩:=hX2.q.five;obtain⟨l0,l1,l2,l3,l4⟩:=hX2.q.Z6;obtain⟨m0,m1,m2,m3,m4⟩:=hX2.c.five;obtain⟨n0,n1,n2,n3,n4⟩:=hX2.c.Z6))
 obtain⟨hq,hc,hbel⟩:=hX2.done (.int .i64 (0)) (.int .i64 (0)) (.int .i64 (0)) (.int .i64 (0)) (.int .i64 (0)) (.int .i64 (0)) (.int .i64 (0)) (.int .i64 (0)) (.int .i64 (0)) (.int .i64 (0)) rfl;obtain⟨y0,y1,y2,y3,y4⟩:=hq.five;obtain⟨z0,z1,z2,z3,z4⟩:=hc.five;exact ZC (v:=.tuple #[(TK.wrong).q,(TK.wrong).c,.int .i64 3,.int .i64 0]) Qf rfl (XB.of hbel)):p:=h
theorem QDJ{p:Prop}(h:p:=by
 have HK:=Zy hk;clear hk;go_wp2_with (go_at_call 247;refine(HS.out _).mono ?_;rintro e w8 ⟨rfl,XF⟩;have qY:=Zy XF;clear XF)
 go_meet;exact⟨rfl,⟨us,Qu⟩,(Yx.of qY.out).trans (Yx.of (ZT _ _))⟩):p:=h
theorem QDK{p:Prop}(h:p:=by
 exact⟨[.slice xB xu xA,.slice KU KY KJ],⟨_,2,2,rfl,rfl,QZ,QZ,JE _ [.slice xB xu xA,.slice KU KY KJ] _,fun h=>QBX⟩,(Lists.one (aC.below (ZT _ _))).append (Lists.one (aB.below (ZT _ _))),hbW.alloc hbW.size _⟩):p:=h
theorem QDU{p:Prop}(h:p:=by
 go_meet;exact⟨rfl,rfl,rfl⟩):p:=h
theorem QDV{p:Prop}(h:p:=by
 clear hk;go_wp2_with (go_at_call 247;refine(HS.out _).mono ?_;rintro e w8 ⟨rfl,XF⟩;have qY:=Zy XF;clear XF)
 go_meet;exact⟨rfl,⟨us,Qu⟩,(Yx.of qY.out).trans (Yx.of (ZT _ _))⟩):p:=h
theorem QDW{p:Prop}(h:p:=by
 rintro e w2 ⟨x,y,er,rfl,hP,hb2⟩;have HP:=Zy hP;have hA2:=hA.below hb2 hA.lt;have hbb:=ZE hb hb.size hb2;clear hA hb hb2 hP;obtain⟨d0,d1,f0,f1⟩:=hA2.two;obtain⟨y0,y1,-,-⟩:=Za.two ((hA2.set 0 (.int .i64 x)).set 1 (.int .i64 y));go_wp2
 go_quiet (fail)
 go_wp2;go_ret3
 exact⟨x,y,er,rfl,HP.out,below_drewN ((hbb.setCell (p:=⟨w.heap.size,0,none⟩) (ZB _) _).setCell (p:=⟨w.heap.size,1,none⟩) (ZB _) _) _⟩):p:=h
theorem QDq{p:Prop}(h:p:=by
 go_wp2_with (go_at_call 247;refine(HS.out _).mono ?_;rintro e w8 ⟨rfl,XF⟩;have qY:=Zy XF;clear XF)
 go_meet;exact⟨rfl,⟨us,Qu⟩,(Yx.of qY.out).trans (Yx.of (ZT _ _))⟩):p:=h
theorem QDz{p:Prop}(h:p:=by
 go_quiet (fail)
 go_wp2;go_ret3
 exact⟨rfl,below_drewN ((Y7.setCell (p:=⟨w2.heap.size+1,0,none⟩) QC _).setCell (p:=⟨w2.heap.size+1,1,none⟩) QC _) _⟩):p:=h
theorem QDx{p:Prop}(h:p:=by
 go_wp2_with (first|(go_at_call 17;refine(YV _ _ _ _ _ _).mono ?_;rintro e w9 ⟨rfl,hb⟩;rw[HP.out];have hX1:=hX.below hb;obtain⟨c0,c1,c2,c3,c4⟩:=hX1.p.five;obtain⟨g0,g1,g2,g3,g4⟩:=hX1.p.Z6;obtain⟨k0,k1,k2,k3,k4⟩:=hX1.q.five;obtain⟨l0,l1,l2,l3,l4⟩:=hX1.q.Z6;obtain⟨m0,m1,m2,m3,m4⟩:=hX1.c.five;obtain⟨n0,n1,n2,n3,n4⟩:=hX1.c.Z6))
 obtain⟨hq,hc,hbel⟩:=hX1.done (.int .i64 (0)) (.int .i64 (0)) (.int .i64 (0)) (.int .i64 (0)) (.int .i64 (0)) (.int .i64 (0)) (.int .i64 (0)) (.int .i64 (0)) (.int .i64 (0)) (.int .i64 (0)) rfl;obtain⟨y0,y1,y2,y3,y4⟩:=hq.five;obtain⟨z0,z1,z2,z3,z4⟩:=hc.five;exact ZC (v:=.tuple #[(TK.wrong).q,(TK.wrong).c,.int .i64 3,.int .i64 0]) Qf rfl (XB.of hbel)):p:=h
theorem QDy{p:Prop}(h:p:=by
 have HA2:=Zy hA2;clear hA2 o2 hb2;go_wp2_with fail
 refine HB.out.mono ?_;rintro e w3 ⟨rfl,hv⟩;go_wp2
 go_end0
 obtain⟨F3,f3,hA3,-,-⟩:=HA2.out.call hv;exact⟨rfl,Qv9⟩):p:=h
theorem QDj{p:Prop}(h:p:=by
 go_enter Tryz.func137,Tryz.ntmps137
 go_wp2_with (go_at_call 140;refine(UZ _ _ _ _ _ _ _ _ h1 h2 h3 h4).mono ?_;rintro e w9 ⟨rfl,hb⟩;have dE:=hX.below hb;obtain⟨k0,k1,k2,k3,k4⟩:=dE.q.five;obtain⟨l0,l1,l2,l3,l4⟩:=dE.q.Z6;obtain⟨m0,m1,m2,m3,m4⟩:=dE.c.five;obtain⟨n0,n1,n2,n3,n4⟩:=dE.c.Z6)
 obtain⟨hq,hc,hbel⟩:=dE.done (.int .i64 0) (.int .i64 0) (.int .i64 0) (.int .i64 0) (.int .i64 0) (.int .i64 (WE f s)) (.int .i64 r) (.int .i64 o) (.int .i64 wt) (.int .i64 key) rfl;obtain⟨y0,y1,y2,y3,y4⟩:=hq.five;obtain⟨z0,z1,z2,z3,z4⟩:=hc.five;exact ZC (v:=.tuple #[(TK.done f r o s wt key).q,(TK.done f r o s wt key).c,.int .i64 2,.int .i64 0]) QAd rfl (XB.of hbel)):p:=h
theorem QDk{p:Prop}(h:p:=by
 have HA2:=Zy hA2;have HB2:=Zy hbd;clear hA2 o2 hb2 hH e37 e38 e39 e40 e41 e42 hbd;go_upto_region 20 with fail
 go_region_law (first|(go_simp;go_at_call 148;refine HU.out.mono ?_;rintro e w8 ⟨h8,l8,E8,VC,lv,sv,pv,nv,rfl,dH,qR,XF⟩;obtain⟨a8,n8,k8,rfl⟩:=qR.form;have qj:=HA2.out.below (Zo.call XF HB2.out))|(go_simp;go_at_call 131;refine Calls.mono (WZ _ _ B S lv sv pv h8 a8 n8 k8 l8 E8 w8 ⟨_,qj.hf⟩ (dH.lt.imp fun k hk=>Fx.new k hk) (qR.lt.imp fun k hk=>Fx.new k hk) (qR.len VC.small) (Zh (Zh (Xg _ _) (Xg _ _)) HN.out)) ?_;rintro e w9 ⟨rfl,cK⟩))
 all_goals
  go_wp2
  go_end0
  obtain⟨F9,f9,Wq,-,-⟩:=qj.call cK;exact⟨rfl,by rw[HE.out,Oh VC];exact Wq.done⟩):p:=h
theorem QDu{p:Prop}(h:p:=by
 exact⟨_,_,_,_,rfl,xX _ _,Yf.nil _ _,((((((Z4.setCell (p:=⟨w.heap.size+1,0,none⟩) (ZA _) _).setCell (p:=⟨w.heap.size+1,1,none⟩) (ZA _) _).setCell (p:=⟨w.heap.size+1,2,none⟩) (ZA _) _).setCell (p:=⟨w.heap.size+1,3,none⟩) (ZA _) _).setCell (p:=⟨w.heap.size+1,4,none⟩) (ZA _) _).setCell (p:=⟨w.heap.size+1,5,none⟩) (ZA _) _)⟩):p:=h
theorem QDv{p:Prop}(h:p:=by
 clear hF hC hM hR hL hb
 go_region
 all_goals
  go_wp2;go_meet;exact⟨HF.out.1,HF.out.2.1,HF.out.2.2.1,HF.out.2.2.2.1,HF.out.2.2.2.2.1,HF.out.2.2.2.2.2.drew⟩):p:=h
theorem QDA{p:Prop}(h:p:=by
 have hbW:Below V2.heap.size V2 w6:=Kv ‹_›;have hSl:=tX.sl;go_wp2;go_meet;change∃us,Vs (w6.alloc (.cells #[.slice Sd Sb Sc] 26)) (.slice (some ⟨w6.heap.size,0,none⟩) 1 1) us/\Lists (w6.alloc (.cells #[.slice Sd Sb Sc] 26)) us _/\Below V2.heap.size V2 (w6.alloc (.cells #[.slice Sd Sb Sc] 26));exact⟨[.slice Sd Sb Sc],⟨_,1,1,rfl,rfl,QZ,QZ,JE _ [.slice Sd Sb Sc] _,fun h=>QBX⟩,Lists.one (hSl.below (ZT _ _)),hbW.alloc hbW.size _⟩):p:=h
theorem QDB{p:Prop}(h:p:=by
 have h1:=kS.kept (w:=w5) SC.out (w':=w5.drew) (ZH _ _).drew;have h2:=h1.kept Jv;have h3:=Own.kept (w:=w5) p9.out (w':=w5.drew) (ZH _ _).drew;exact⟨h2.row,h3.kept Jv,h2.pat⟩):p:=h
theorem QDC{p:Prop}(h:p:=by
 have e1:=jv h0;have yF:=Zy e1;clear h0 e1;go_wp2;go_meet;exact⟨rfl,⟨us,Qd⟩,Yx.refl _ _⟩):p:=h
theorem QDD{p:Prop}(h:p:=by
 go_wp2_with (first|(go_at_call 15;refine(HEV.out _ gY.out).mono ?_;rintro e w3 ⟨rfl,hb3⟩;have z0:=ZL hb3 _ _ y0;have z1:=ZL hb3 _ _ y1;have z3:=ZL hb3 _ _ y3;have z4:=ZL hb3 _ _ y4;have z5:=ZL hb3 _ _ y5;have z6:=ZL hb3 _ _ y6;have z7:=ZL hb3 _ _ y7;have z37:=ZL hb3 _ _ y37;have z38:=ZL hb3 _ _ y38)|(go_at_call 17;refine(KC.out _).mono ?_;rintro e w4 ⟨rfl,hb4⟩;rw[KPT.out]))
 go_ret;exact⟨rfl,HB2.out.trans ((gY.out.trans ((hb3.trans (hb4.mono hb3.size)).mono gY.out.size)).mono HB2.out.size)⟩):p:=h
theorem QDE{p:Prop}(h:p:=by
 clear hq;go_wp2;go_roundw
 case rel=>
  refine⟨i+1,Qk,by rw[HQ2.out],QQ,?_,QAX⟩;intro j hj;rcases XK.1 hj with h|rfl
  ·exact Kj.out j h
  ·exact rQ.out
 case measure=>simp[intOf];omega):p:=h
theorem QDF{p:Prop}(h:p:=by
 go_meet;exact⟨rfl,⟨_,QM⟩,((Yx.of qY.out).trans (Yx.setCells c'.cells)).trans (Yx.of (ZT _ _))⟩):p:=h
theorem QDG{p:Prop}(h:p:=by
 have hSl:=tX.sl;go_wp2;go_meet;change∃us,Vs (w6.alloc (.cells #[.slice Sd Sb Sc] 26)) (.slice (some ⟨w6.heap.size,0,none⟩) 1 1) us/\Lists (w6.alloc (.cells #[.slice Sd Sb Sc] 26)) us _/\Below V2.heap.size V2 (w6.alloc (.cells #[.slice Sd Sb Sc] 26));exact⟨[.slice Sd Sb Sc],⟨_,1,1,rfl,rfl,QZ,QZ,JE _ [.slice Sd Sb Sc] _,fun h=>QBX⟩,Lists.one (hSl.below (ZT _ _)),hbW.alloc hbW.size _⟩):p:=h
theorem QDH{p:Prop}(h:p:=by
 go_wp2;go_roundw
 case rel=>
  refine⟨P+1,j+1,Qk,Zy (by have:=HP.out;omega),by have:=HP.out;omega,QQ,?_,below_drewN QZM m⟩;have h1:=HBK.out;rw[XV (by rw[Lv.out];exact ZB _),<-gY.out,<-yC,HX.out]at h1;rw[xR,HPA.out,List.map_append];exact h1
 case measure=>simp[intOf];omega):p:=h
theorem QDI{p:Prop}(h:p:=by
 go_enter Tryz.func65,Tryz.ntmps65
 go_wp2
 go_quiet (fail)
 go_wp2
 go_end0
 refine⟨rfl,?_,?_,below_drewN (ZH _ _) _⟩
 ·rw[HS.out];exact hB.drewN _
 ·rw[HS.out];exact hR.drewN _):p:=h
theorem QDL{p:Prop}(h:p:=by
 go_wp2;go_meet;exact⟨rfl,rfl⟩):p:=h
theorem QDM{p:Prop}(h:p:=by
 go_enter Tryz.func244,Tryz.ntmps244
 go_wp2_with fail
 refine h1.mono ?_;rintro e w1 ⟨rfl,rfl⟩;go_wp2_with fail
 refine h2.mono ?_;rintro e w1 ⟨rfl,rfl⟩;go_wp2_with fail
 refine h3.mono ?_;rintro e w1 ⟨rfl,rfl⟩;go_wp2_with fail
 refine h4.mono ?_;rintro e w1 ⟨rfl,rfl⟩;go_wp2;go_ret;exact⟨_,_,rfl,CB base w hbs _ _ _ l r c _ _ rfl HL.out HR.out (by rw[HS.out]) (by rw[HT.out,i2]),rfl,ZT _ _⟩):p:=h
theorem QDN{p:Prop}(h:p:=by
 go_wp2;go_meet;change∃us,Vs (w6.alloc (.cells #[.slice Sd Sb Sc] 26)) (.slice (some ⟨w6.heap.size,0,none⟩) 1 1) us/\Lists (w6.alloc (.cells #[.slice Sd Sb Sc] 26)) us _/\Below V2.heap.size V2 (w6.alloc (.cells #[.slice Sd Sb Sc] 26));exact⟨[.slice Sd Sb Sc],⟨_,1,1,rfl,rfl,QZ,QZ,JE _ [.slice Sd Sb Sc] _,fun h=>QBX⟩,Lists.one (hSl.below (ZT _ _)),hbW.alloc hbW.size _⟩):p:=h
theorem QDO{p:Prop}(h:p:=by
 go_wp2;go_meet;exact⟨HF.out.1,HF.out.2.1,HF.out.2.2.1,HF.out.2.2.2.1,HF.out.2.2.2.2.1,HF.out.2.2.2.2.2.drew⟩):p:=h
theorem QDP{p:Prop}(h:p:=by
 have yF:=Zy e1;clear h0 e1;go_wp2;go_meet;exact⟨rfl,⟨us,Qd⟩,Yx.refl _ _⟩):p:=h
theorem QDR{p:Prop}(h:p:=by
 exact⟨rfl,⟨_,QM⟩,((Yx.of qY.out).trans (Yx.setCells c'.cells)).trans (Yx.of (ZT _ _))⟩):p:=h
theorem QDS{p:Prop}(h:p:=by
 rcases h.2 with⟨rfl,_⟩|⟨g,cap,cur,rfl,hb',hgg,rest⟩
 ·simp[Value.ownBlock]
 ·intro hv
  simp only[Value.ownBlock,ZM]at hv;subst hv;rw[show w.heap[B]? =_ from hB]at hgg;simp at hgg;exact he hgg.2.symm):p:=h
theorem QDT{p:Prop}(h:p:=by
 go_meet;change∃us,Vs (w6.alloc (.cells #[.slice Sd Sb Sc] 26)) (.slice (some ⟨w6.heap.size,0,none⟩) 1 1) us/\Lists (w6.alloc (.cells #[.slice Sd Sb Sc] 26)) us _/\Below V2.heap.size V2 (w6.alloc (.cells #[.slice Sd Sb Sc] 26));exact⟨[.slice Sd Sb Sc],⟨_,1,1,rfl,rfl,QZ,QZ,JE _ [.slice Sd Sb Sc] _,fun h=>QBX⟩,Lists.one (hSl.below (ZT _ _)),hbW.alloc hbW.size _⟩):p:=h
theorem QDa{p:Prop}(h:p:=by
 rintro e w2 ⟨rfl,hb2⟩;have hb3:=ZE hbel (Xr hB2.lt) hb2;have hB3:=hB2.below hb2 hB2.lt;go_wp2;go_roundw
 case rel=>exact⟨j+1,Qk,QQ,rfl,hB3,hb3⟩
 case measure=>simp[intOf];omega):p:=h
theorem QDb{p:Prop}(h:p:=by
 cases B
 all_goals
  have HF:=Zy hF;have HT:=Zy hT;clear hF hT;go_enter Tryz.func271,Tryz.ntmps271
  go_wp2_with ((go_at_call 270);refine(WW a n c l k key count arg true _ hI HN.out hn2 ⟨k1,k2⟩).mono ?_;rintro e w2 ⟨rfl,hb2⟩;rw[HA.out,HB.out,HE.out])
  all_goals
   go_ret3
   rw[HF.out,HT.out];refine⟨?_,ZE hacc QJ hb2⟩;simp
   try omega):p:=h
theorem QDc{p:Prop}(h:p:=by
 go_meet;exact⟨HF.out.1,HF.out.2.1,HF.out.2.2.1,HF.out.2.2.2.1,HF.out.2.2.2.2.1,HF.out.2.2.2.2.2.drew⟩):p:=h
theorem QDd{p:Prop}(h:p:=by
 go_wp2;go_roundw
 case rel=>
  refine⟨k+1,Qk,QQ,?_,_,rfl⟩;rw[fe.out];unfold Jc;rw[if_pos QAH,<-HX1.out];exact HSK.out.drewN m
 case measure=>simp[intOf];omega):p:=h
theorem QDe{p:Prop}(h:p:=by
 go_enter Tryz.func136,Tryz.ntmps136
 go_wp2;refine ZC (v:=.tuple #[.agg #[.slice none 0 0,.int .i64 0],.int .i64 1]) QA rfl ?_;exact Yp.of HK.out (fun h=>absurd h HU.out) (.inl rfl) rfl QQ hb):p:=h
theorem QDf{p:Prop}(h:p:=by
 change∃us,Vs (w6.alloc (.cells #[.slice Sd Sb Sc] 26)) (.slice (some ⟨w6.heap.size,0,none⟩) 1 1) us/\Lists (w6.alloc (.cells #[.slice Sd Sb Sc] 26)) us _/\Below V2.heap.size V2 (w6.alloc (.cells #[.slice Sd Sb Sc] 26));exact⟨[.slice Sd Sb Sc],⟨_,1,1,rfl,rfl,QZ,QZ,JE _ [.slice Sd Sb Sc] _,fun h=>QBX⟩,Lists.one (hSl.below (ZT _ _)),hbW.alloc hbW.size _⟩):p:=h
theorem QDg{p:Prop}(h:p:=by
 have HF:=Zy hF;have HT:=Zy hT;clear hF hT;go_enter Tryz.func271,Tryz.ntmps271
 go_wp2_with ((go_at_call 270);refine(WW a n c l k key count arg true _ hI HN.out hn2 ⟨k1,k2⟩).mono ?_;rintro e w2 ⟨rfl,hb2⟩;rw[HA.out,HB.out,HE.out])
 all_goals
  go_ret3
  rw[HF.out,HT.out];refine⟨?_,ZE hacc QJ hb2⟩;simp
  try omega):p:=h
theorem QDh{p:Prop}(h:p:=by
 go_enter Tryz.func191,Tryz.ntmps191
 go_wp2_with ((go_at_call 194);refine(HC.out _ QXS.out).mono ?_;rintro e w2 ⟨rfl,hb2⟩;rw[HE.out])
 go_ret;exact⟨XA HR.out.symm,ZE hacc QJ hb2⟩):p:=h
theorem QDi{p:Prop}(h:p:=by
 have h2:=h1.store (S':={S with pos:=max 0 (S.pos-1),mode:=0}) 2 (.int .i64 0) {h1.hf.d with mode:=rfl};obtain⟨F',h3⟩:=h2.uK Kj.out;rw[X7 QZ,X7 QZ,H47.out]at h3;exact⟨rfl,QBM⟩):p:=h
theorem QDl{p:Prop}(h:p:=by
 go_wp2_with ((with_reducible show wpList _ _ _ (⟨none,Op.store _ _ _,_,_,_,_⟩::_) _ _);go_loud (refine zW rfl _ _ rfl (w.heap.size+4) 0 rfl YJ rfl YJ _ hZr (ZB 33) rfl zi ?_;have qO:=WC hZr Jk HBr.out QQ YJ rfl;generalize wr.setCells (w.heap.size+4) 0 YJ=w9 at qO ⊢))
 rw[gQ.out];exact ZC (Jw Tryz.results202 rfl (VM qO.1 Jk)) rfl ⟨YJ,rfl,vW _ _ _,qO.2⟩):p:=h
theorem QDm{p:Prop}(h:p:=by
 go_wp2;go_roundw
 case rel=>
  refine⟨k+1,Qk,QQ,?_,_,rfl⟩;rw[fe.out];unfold Jc;rw[if_neg QAH];exact HBK.out
 case measure=>simp[intOf];omega):p:=h
theorem QDn{p:Prop}(h:p:=by
 exact⟨HF.out.1,HF.out.2.1,HF.out.2.2.1,HF.out.2.2.2.1,HF.out.2.2.2.2.1,HF.out.2.2.2.2.2.drew⟩):p:=h
theorem QDo{p:Prop}(h:p:=by
 go_roundw
 case rel=>
  refine⟨k+1,Qk,QQ,?_,_,rfl⟩;rw[fe.out];unfold Jc;rw[if_pos QAH,<-HX1.out];exact HSK.out.drewN m
 case measure=>simp[intOf];omega):p:=h
theorem QDp{p:Prop}(h:p:=by
 have h2:=h1.kept Jv;have h3:=Own.kept (w:=w5) p9.out (w':=w5.drew) (ZH _ _).drew;exact⟨h2.row,h3.kept Jv,h2.pat⟩):p:=h
theorem QDr{p:Prop}(h:p:=by
 have hlt:j<ys.length:=by
  rcases Z7 j ys.length with h|h
  ·exact h
  ·simp[h]at hj
 rcases hy with hy|⟨b,o',ha,hc⟩
 ·subst hy;simp at hlt
 ·simp only[ZM]at ha
  subst ha;have hadd:(⟨b,o',none⟩:Addr).add j=⟨b,o'+j,none⟩:=QN;rw[hadd,hc j hlt];rw[List.getElem?_map,XJ hlt]at hj;rw[Yw hlt];exact hj):p:=h
theorem QDs{p:Prop}(h:p:=by
 subst he;exact⟨_,rfl,_,_,_,[],_,[],hW',trodAll_mk1 (shut_bool Tryz.underlying4 _),(trodAll_cons_mk (Below.trod laidOut QX (of_decide_eq_true QX) k0 YX lt0) (trodAll_cons_mk (Below.trod laidOut QX (of_decide_eq_true QX) k1 YX lt1) (trodAll_cons_mk (Below.trod laidOut QX (of_decide_eq_true QX) k2 YX lt2) trodAll_mk0))),rfl,YX.frame _,fun h=>QBQ⟩):p:=h
theorem QDt{p:Prop}(h:p:=by
 go_meet;exact⟨rfl,⟨us,Qu⟩,(Yx.of qY.out).trans (Yx.of (ZT _ _))⟩):p:=h
theorem QD0{p:Prop}(h:p:=by
 clear h0 e1;go_wp2;go_meet;exact⟨rfl,⟨us,Qd⟩,Yx.refl _ _⟩):p:=h
theorem QD1{p:Prop}(h:p:=by
 go_roundw
 case rel=>
  refine⟨k+1,Qk,QQ,?_,_,rfl⟩;rw[fe.out];unfold Jc;rw[if_neg QAH];exact HBK.out
 case measure=>simp[intOf];omega):p:=h
theorem QD2{p:Prop}(h:p:=by
 go_enter Tryz.func271,Tryz.ntmps271
 go_wp2_with ((go_at_call 270);refine(WW a n c l k key count arg true _ hI HN.out hn2 ⟨k1,k2⟩).mono ?_;rintro e w2 ⟨rfl,hb2⟩;rw[HA.out,HB.out,HE.out])
 all_goals
  go_ret3
  rw[HF.out,HT.out];refine⟨?_,ZE hacc QJ hb2⟩;simp
  try omega):p:=h
theorem QD3{p:Prop}(h:p:=by
 refine⟨P+1,j+1,Qk,Zy (by have:=HP.out;omega),by have:=HP.out;omega,QQ,?_,below_drewN QZM m⟩;have h1:=HBK.out;rw[XV (by rw[Lv.out];exact ZB _),<-gY.out,<-yC,HX.out]at h1;rw[xR,HPA.out,List.map_append];exact h1):p:=h
theorem QD4{p:Prop}(h:p:=by
 go_enter Tryz.func48,Tryz.ntmps48
 go_wp2_with fail
 refine HC.out.mono ?_;rintro e w7 ⟨rfl,hv⟩;go_wp2
 go_end0
 exact⟨rfl,hv⟩):p:=h
theorem QD5{p:Prop}(h:p:=by
 go_wp2_with ((go_at_call 270);refine(WW a n c l k key count arg true _ hI HN.out hn2 ⟨k1,k2⟩).mono ?_;rintro e w2 ⟨rfl,hb2⟩;rw[HA.out,HB.out,HE.out])
 all_goals
  go_ret3
  rw[HF.out,HT.out];refine⟨?_,ZE hacc QJ hb2⟩;simp
  try omega):p:=h
theorem QD6{p:Prop}(h:p:=by
 refine⟨i+1,Qk,by rw[HQ2.out],QQ,?_,QAX⟩;intro j hj;rcases XK.1 hj with h|rfl
 ·exact Kj.out j h
 ·exact rQ.out):p:=h
theorem QD7{p:Prop}(h:p:=by
 go_wp2;go_meet;exact⟨QBN,hW3.symm⟩):p:=h
theorem QD8{p:Prop}(h:p:=by
 obtain⟨b,o,hb,hc⟩:=h5.at (k:=0) QQ;rw[e]at hb;simp only[ZM]at hb;subst hb;exact XU (hc 0 QQ)):p:=h
theorem QD9{p:Prop}(h:p:=by
 exact⟨rfl,⟨us,Qu⟩,(Yx.of qY.out).trans (Yx.of (ZT _ _))⟩):p:=h
theorem QDw{p:Prop}(h:p:=by
 have h3:=Own.kept (w:=w5) p9.out (w':=w5.drew) (ZH _ _).drew;exact⟨h2.row,h3.kept Jv,h2.pat⟩):p:=h
theorem QEQ{p:Prop}(h:p:=by
 have hadd:(⟨b,o',none⟩:Addr).add j=⟨b,o'+j,none⟩:=QN;rw[hadd,hc j hlt];rw[List.getElem?_map,XJ hlt]at hj;rw[Yw hlt];exact hj):p:=h
theorem QEZ{p:Prop}(h:p:=by
 obtain⟨a1,a2,a3,a4⟩:=h;obtain⟨b1,b2,b3,b4⟩:=h';rcases XC a b with h|h|h
 ·have:=b3 a h
  rcases a4 with h'|h'|h'
  ·omega
  ·omega
  ·exact absurd this h'
 ·exact h
 ·have:=a3 b h
  rcases b4 with h'|h'|h'
  ·omega
  ·omega
  ·exact absurd this h'):p:=h
theorem QEX{p:Prop}(h:p:=by
 go_wp2
 go_end0
 have h1:=HA.out.store (S':={S with pos:=max 0 (S.pos-1)}) 1 (.int .i64 0) {HA.out.hf.d with pos:=by rw[<-HSP.out];rfl};have h2:=h1.store (S':={S with pos:=max 0 (S.pos-1),mode:=0}) 2 (.int .i64 0) {h1.hf.d with mode:=rfl};exact⟨rfl,QBL⟩):p:=h
theorem QEY{p:Prop}(h:p:=by
 clear hq;go_wp2;go_roundw
 case rel=>
  refine⟨i,Qk,QQ,QQ,?_,QAX⟩;intro j h1 h2 h3;by_cases e:j=i
  ·rw[e];exact rQ.out
  ·exact Kj.out j QQ h2 h3
 case measure=>simp[intOf]):p:=h
theorem QEJ{p:Prop}(h:p:=by
 go_quiet (fail)
 all_goals
  go_wp2;go_meet;exact⟨rfl,_,QL⟩):p:=h
theorem QEK{p:Prop}(h:p:=by
 go_wp2;go_meet;exact⟨rfl,⟨us,Qd⟩,Yx.refl _ _⟩):p:=h
theorem QEU{p:Prop}(h:p:=by
 go_enter Tryz.func192,Tryz.ntmps192
 go_wp2_with ((go_at_call 222);refine HN.out.mono ?_;rintro e w2 ⟨x,g,rfl,hx,hb2⟩;rcases Ci hx with⟨rfl,hg⟩|⟨rfl,hg⟩)
 ·go_ret
  exact⟨Yu QAf,hb2⟩
 ·go_ret
  exact⟨Yu QAf,hb2⟩):p:=h
theorem QEV{p:Prop}(h:p:=by
 obtain⟨x0,x1,x2,x3,x4,x5,x6,x7,x8,x9,Sa,rA,x12,x13,x14,x15,x16,x17,x18,x19,x20,x21,SN,SL,x24,x25,SI,rfl⟩:=QQh hr
 kernel_rfl):p:=h
theorem QEW{p:Prop}(h:p:=by
 refine⟨h.1,?_⟩;rcases h.2 with hn|⟨g,cap,cur,rfl,hb',rest⟩
 ·exact .inl hn
 ·exact .inr ⟨g,cap,cur,rfl,QQ,rest⟩):p:=h
theorem QEq{p:Prop}(h:p:=by
 go_end0
 refine⟨rfl,?_,?_,hbel _⟩
 ·rw[HS.out];exact hB.set 1 (.int .i64 0)
 ·rw[HS.out];exact hR.other hne _):p:=h
theorem QEz{p:Prop}(h:p:=by
 go_wp2_with (go_at_call 43;refine(Zw (qV ma mc k) (p-j-k) (mc-k) ((m.take (p-j)).drop k) _ kX HCL.out QQ HC0.out).mono ?_;rintro e w8 ⟨v8,rfl,o8,XF⟩;obtain⟨a8,n8,c8,rfl⟩:=o8.form)
 go_ret2
 exact HF.out a8 n8 c8 w8 o8 XF):p:=h
theorem QEx{p:Prop}(h:p:=by
 clear hmode hov hm2;go_wp2;go_meet;exact⟨q,q,_,1,1,rfl,rfl,rfl,QQ,QQ,⟨[key],0,DZ,rfl,HK.out,fun h=>absurd h hnb⟩,QQ,(fun h=>QBQ),(hP.drewN nq).alloc _,(hA.drewN nq).alloc _,hb0.alloc hb0.size _⟩):p:=h
theorem QEy{p:Prop}(h:p:=by
 rintro e w' (⟨k,hk,h⟩|⟨hk,h⟩)
 ·exact⟨_,_,_,.inr (.inr (.inr (.inl ⟨QR,QQ,QBn,k,QAv,rfl,rfl,rfl⟩))),by rw[hq];exact h⟩
 ·exact⟨_,_,_,.inr (.inr (.inr (.inr ⟨QR,QQ,QBn,QAv,rfl,rfl,rfl⟩))),h⟩):p:=h
theorem QEj{p:Prop}(h:p:=by
 by_cases c2:k=0
 ·rw[if_pos c2]at h;cases h
 ·rw[if_neg c2]at h;simp at h;omega):p:=h
theorem QEk{p:Prop}(h:p:=by
 obtain⟨h1,h2⟩:=h;constructor
 ·rintro⟨h3,h4⟩
  refine⟨hk,fun j hj=>?_⟩;rw[h4 j hj,h2 (k-k'+j) QQ];congr 1;omega
 ·rintro⟨h3,h4⟩
  refine⟨QQ,fun j hj=>?_⟩;rw[h4 j hj,h2 (k-k'+j) QQ];congr 1;omega):p:=h
theorem QEu{p:Prop}(h:p:=by
 obtain⟨a,n,c,h1,h2,h3,h4,h5,h6,h7⟩:=h;refine⟨a,n,c,h1,h2,h3,h4,?_,h6,h7⟩;rcases h5 with h5|⟨b,o,rfl,h5⟩
 ·exact .inl h5
 ·exact .inr ⟨b,o,rfl,fun i hi=>hc _ _ (show P b from h7 ⟨b,o,none⟩ rfl QQ) (h5 i hi)⟩):p:=h
theorem QEv{p:Prop}(h:p:=by
 rintro e w' (⟨k,hk,h⟩|⟨hk,h⟩)
 ·exact⟨_,_,_,.inr (.inr (.inr (.inl ⟨QR,QQ,QBc,k,QAv,rfl,rfl,rfl⟩))),by rw[hq];exact h⟩
 ·exact⟨_,_,_,.inr (.inr (.inr (.inr ⟨QR,QQ,QBc,QAv,rfl,rfl,rfl⟩))),h⟩):p:=h
theorem QEA{p:Prop}(h:p:=by
 exact⟨_,_,_,_,rfl,xX _ _,Yf.nil _ _,Jd Z4 (ZA _)⟩):p:=h
theorem QEB{p:Prop}(h:p:=by
 go_wp2
 all_goals
  go_ret;refine⟨XA ?_,rfl⟩;unfold Fp;omega):p:=h
theorem QEC{p:Prop}(h:p:=by
 refine⟨k+1,Qk,QQ,?_,_,rfl⟩;rw[fe.out];unfold Jc;rw[if_pos QAH,<-HX1.out];exact HSK.out.drewN m):p:=h
theorem QED{p:Prop}(h:p:=by
 go_roundw
 case rel=>
  refine⟨k+1,mm,f,Qk,QQ,QQ,?_,?_⟩
  ·rw[HS2.out];intro o;exact Nat.le_succ_of_le (hlen o)
  ·rw[HS2.out];exact Nf
 case measure=>simp[intOf];omega):p:=h
theorem QEE{p:Prop}(h:p:=by
 clear hmode hov hm2 i3 h2;go_wp2;refine ZC (v:=.tuple #[.agg #[.slice none 0 0,.int .i64 0],.int .i64 8]) QA rfl ?_;exact Yp.of HK.out (fun h=>absurd h hnb) (.inl rfl) rfl QQ HBZ.out):p:=h
theorem QEF{p:Prop}(h:p:=by
 have:=CS w;unfold C5.v at this;exact this):p:=h
theorem QEG{p:Prop}(h:p:=by
 unfold Jn at h;split at h
 ·omega
 ·split at h
  ·rcases h with⟨t,h1,_,_,h2⟩|⟨_,h2⟩<;>(try dsimp only at h2)<;>omega
  ·rcases h with⟨t,h1,_,_,h2⟩|⟨_,h2⟩<;>(try dsimp only at h2)<;>omega):p:=h
theorem QEH{p:Prop}(h:p:=by
 go_meet;exact⟨rfl,⟨us,Qd⟩,Yx.refl _ _⟩):p:=h
theorem QEI{p:Prop}(h:p:=by
 obtain⟨a,n,c,h1,h2,h3,h4,h5,h6,h7⟩:=h;exact⟨a,n,c,h1,h2,h3,h4,h5,h6,fun ad e p=>hi _ (h7 ad e p)⟩):p:=h
theorem QEL{p:Prop}(h:p:=by
 refine⟨k+1,Qk,QQ,?_,_,rfl⟩;rw[fe.out];unfold Jc;rw[if_neg QAH];exact HBK.out):p:=h
theorem QEM{p:Prop}(h:p:=by
 refine⟨h1.le,?_⟩;obtain⟨X,g1,g2,g3⟩:=h1.ex;exact⟨X,g1,g2,fun i hi hp=>g3 i hi (by
  rcases hp with hp|hp|hp
  ·exact .inl hp
  ·exact .inr (.inl (.inl hp))
  ·exact .inr (.inr hp))⟩):p:=h
theorem QEN{p:Prop}(h:p:=by
 have h1:=HBK.out;rw[XV (by rw[Lv.out];exact ZB _),<-gY.out,<-yC,HX.out]at h1;rw[xR,HPA.out,List.map_append];exact h1):p:=h
theorem QEO{p:Prop}(h:p:=by
 go_wp2
 go_end0
 exact⟨rfl,hv⟩):p:=h
theorem QEP{p:Prop}(h:p:=by
 go_enter Tryz.func287,Tryz.ntmps287
 go_wp2_with ((go_at_call 288);refine(Kw _ _).mono ?_;rintro e w' ⟨rfl,rfl⟩;rw[HK.out])
 all_goals
  go_ret;exact⟨rfl,hacc⟩):p:=h
theorem QER{p:Prop}(h:p:=by
 go_wp2;go_ret3
 rw[HG.out];exact⟨rfl,ZH _ _⟩):p:=h
theorem QES{p:Prop}(h:p:=by
 intro j hj;rcases XK.1 hj with h|rfl
 ·exact Kj.out j h
 ·exact rQ.out):p:=h
theorem QET{p:Prop}(h:p:=by
 rcases hy:(JX l k arg)[n.toNat-1]? with _|y
 ·rw[hy]at h;cases h
 ·rw[hy]at h
  have hy:=vF _ _ _ _ y (Xo hy);simp at h;obtain⟨h1,_⟩:=h;split at h1<;>omega):p:=h
theorem QEa{p:Prop}(h:p:=by
 rcases hy:(Jz l k arg)[n.toNat-1]? with _|y
 ·rw[hy]at h;cases h
 ·rw[hy]at h
  have hy:=Eu _ _ _ y (Xo hy);simp at h;obtain⟨h1,_⟩:=h;split at h1<;>omega):p:=h
theorem QEb{p:Prop}(h:p:=by
 rcases hM.gB with hg|hg
 ·exact hn hg
 ·omega):p:=h
theorem QEc{p:Prop}(h:p:=by
 exact Yp.of HK.out (fun h=>absurd h hnb) (.inl rfl) rfl QQ ((below_drewN hb nq).setCell (p:=⟨w.heap.size+1,0,none⟩) (ZA _) _ |>.setCell (p:=⟨w.heap.size+1,1,none⟩) (ZA _) _)):p:=h
theorem QEd{p:Prop}(h:p:=by
 go_wp2;go_ret;exact⟨rfl,rfl⟩):p:=h
theorem QEe{p:Prop}(h:p:=by
 exact hM.now.move (fun _ h=>h) fun C hC=>⟨hs C (hne C (.inr (.inr ⟨C,hC,.inl rfl⟩))),fun tv k g1 g2=>hs k (hne k (.inr (.inr ⟨C,hC,.inr ⟨tv,g1,g2⟩⟩)))⟩):p:=h
theorem QEf{p:Prop}(h:p:=by
 go_wp2_with fail
 refine(VH a1 a2 n1 n2 c1 c2 xs _ h1 h2 E1.out E2.out hx).mono ?_;rintro e w' ⟨rfl,nd,rfl⟩;go_wp2;go_ret;exact⟨rfl,below_drewN hb2 _⟩):p:=h
theorem QEg{p:Prop}(h:p:=by
 unfold SS.command;dsimp only;rw[if_neg QZ];rw[if_neg QZ];rw[if_neg QZ];rw[if_neg QZ];rw[if_neg QZ];rw[if_neg QZ];rw[if_neg QZ];rw[if_neg QZ];rw[if_pos QZ];rfl):p:=h
theorem QEh{p:Prop}(h:p:=by
 subst ha;have hadd:(⟨b,o',none⟩:Addr).add j=⟨b,o'+j,none⟩:=QN;rw[hadd,hc j hlt];rw[List.getElem?_map,XJ hlt]at hj;rw[Yw hlt];exact hj):p:=h
theorem QEi{p:Prop}(h:p:=by
 go_wp2;go_meet;rw[HD.out];exact⟨rfl,rfl⟩):p:=h
theorem QEl{p:Prop}(h:p:=by
 refine⟨i,Qk,QQ,QQ,?_,QAX⟩;intro j h1 h2 h3;by_cases e:j=i
 ·rw[e];exact rQ.out
 ·exact Kj.out j QQ h2 h3):p:=h
theorem QEm{p:Prop}(h:p:=by
 rw[fe.out];unfold Jc;rw[if_pos QAH,<-HX1.out];exact HSK.out.drewN m):p:=h
theorem QEn{p:Prop}(h:p:=by
 refine⟨h.1,?_⟩;rcases h.2 with hn|⟨g,cap,cur,rfl,hb',hgg,rest⟩
 ·exact .inl hn
 ·exact .inr ⟨g,cap,cur,rfl,hb',by rw[hb g rfl];exact hgg,rest⟩):p:=h
theorem QEo{p:Prop}(h:p:=by
 exact⟨.inl ⟨i,Qx,HF.out,Kj.out,by rw[HP.out];rfl⟩,(hb.setCell (p:=⟨w.heap.size,0,none⟩) (ZB _) _).setCell (p:=⟨w.heap.size,1,none⟩) (ZB _) _⟩):p:=h
theorem QEp{p:Prop}(h:p:=by
 rw[XV (by rw[Lv.out];exact ZB _),<-gY.out,<-yC,HX.out]at h1;rw[xR,HPA.out,List.map_append];exact h1):p:=h
theorem QEr{p:Prop}(h:p:=by
 exact⟨rfl,⟨us,Qd⟩,Yx.refl _ _⟩):p:=h
theorem QEs{p:Prop}(h:p:=by
 simp at h;obtain⟨h1,_⟩:=h;split at h1<;>omega):p:=h
theorem QEt{p:Prop}(h:p:=by
 unfold SS.command;dsimp only;rw[if_neg QZ];rw[if_neg QZ];rw[if_neg QZ];rw[if_neg QZ];rw[if_neg QZ];rw[if_neg QZ];rw[if_neg QZ];rw[if_pos QZ];rfl):p:=h
theorem QE0{p:Prop}(h:p:=by
 go_enter Tryz.func304,Tryz.ntmps304
 go_wp2;go_ret3
 exact⟨rfl,rfl⟩):p:=h
theorem QE1{p:Prop}(h:p:=by
 obtain⟨p,hp,hu⟩:=List.mem_flatMap.1 hu;have:=hok p hp;simp[V2.cells]at hu;rcases hu with rfl|rfl
 ·exact this.1
 ·exact this.2):p:=h
theorem QE2{p:Prop}(h:p:=by
 rw[hadd,hc j hlt];rw[List.getElem?_map,XJ hlt]at hj;rw[Yw hlt];exact hj):p:=h
theorem QE3{p:Prop}(h:p:=by
 go_wp2
 go_end0
 obtain⟨F9,f9,Wq,-,-⟩:=qj.call cK;exact⟨rfl,QBv⟩):p:=h
theorem QE4{p:Prop}(h:p:=by
 go_ret;refine⟨XA ?_,rfl⟩;unfold Fp;omega):p:=h
theorem QE5{p:Prop}(h:p:=by
 rcases XK.1 hj with h|rfl
 ·exact Kj.out j h
 ·exact rQ.out):p:=h
theorem QE6{p:Prop}(h:p:=by
 go_wp2;go_meet;exact⟨rfl,_,QL⟩):p:=h
theorem QE7{p:Prop}(h:p:=by
 exact⟨[.slice Sd Sb Sc],⟨_,1,1,rfl,rfl,QZ,QZ,JE _ [.slice Sd Sb Sc] _,fun h=>QBX⟩,Lists.one (hSl.below (ZT _ _)),hbW.alloc hbW.size _⟩):p:=h
theorem QE8{p:Prop}(h:p:=by
 rw[fe.out];unfold Jc;rw[if_neg QAH];exact HBK.out):p:=h
theorem QE9{p:Prop}(h:p:=by
 clear h22 hrs hR2;go_wp2;go_ret;exact⟨rfl,rZ.out.trans ((HBE.out.trans (hb2.mono HBE.out.size)).mono rZ.out.size)⟩):p:=h
theorem QEw{p:Prop}(h:p:=by
 have hz2:=HF.out;refine⟨⟨v3,_,_,_,_,⟨j+1,Qk,b,rfl,QQ,by simpa using hz,by simpa using hz2⟩,rfl,rfl,rfl,rfl,rfl⟩,Qp⟩):p:=h
theorem QFQ{p:Prop}(h:p:=by
 refine⟨a,n,c,h1,h2,h3,h4,h5,h6,fun ad ea p=>?_⟩;subst h1 ea;rcases h.2 with⟨h8,_⟩|⟨g,cap,cur,h8,_⟩<;>simp_all[Value.ownBlock]):p:=h
theorem QFZ{p:Prop}(h:p:=by
 refine⟨h.1,?_⟩;rcases h.2 with hn|⟨g,cap,cur,rfl,hb',hgg,rest⟩
 ·exact .inl hn
 ·exact .inr ⟨g,cap,cur,rfl,hb',QA4,rest⟩):p:=h
theorem QFX{p:Prop}(h:p:=by
 refine⟨h.1,?_⟩;rcases h.2 with hn|⟨g,cap,cur,rfl,hb',hgg,rest⟩
 ·exact .inl hn
 ·exact .inr ⟨g,cap,cur,rfl,hb',QAJ,rest⟩):p:=h
theorem QFY{p:Prop}(h:p:=by
 unfold C5.v at this;exact this):p:=h
theorem QFJ{p:Prop}(h:p:=by
 refine⟨k+1,mm,f,Qk,QQ,QQ,?_,?_⟩
 ·rw[HS2.out];intro o;exact Nat.le_succ_of_le (hlen o)
 ·rw[HS2.out];exact Nf):p:=h
theorem QFK{p:Prop}(h:p:=by
 rw[ho]at hn;have:f 47=.pointer none:=hn;rw[hC]at this;cases this):p:=h
theorem QFU{p:Prop}(h:p:=by
 go_wp2;go_ret;exact⟨rfl,hbel⟩):p:=h
theorem QFV{p:Prop}(h:p:=by
 exact(((ZE hbx hbx.size Jv)).setCell (p:=⟨w.heap.size+1,0,none⟩) (ZA _) _).setCell (p:=⟨w.heap.size+1,1,none⟩) (ZA _) _):p:=h
theorem QFW{p:Prop}(h:p:=by
 by_cases c2:op=false/\YO (VE l (key==69)) n.toNat k=k
 ·rw[if_pos c2]at h;cases h
 ·rw[if_neg c2]at h;simp at h;omega):p:=h
theorem QFq{p:Prop}(h:p:=by
 unfold Ke;split
 ·rename_i r hr
  have hr:=Yh hr;have:=Jn.le (KA l l.length r QQ) QQ;omega
 ·omega):p:=h
theorem QFz{p:Prop}(h:p:=by
 go_simp;go_wp2
 go_end0
 rw[eG,chL,HY.out,hK2];exact⟨rfl,cz,((Yx.of hb2).drew).trans Wq⟩):p:=h
theorem QFx{p:Prop}(h:p:=by
 subst hk;exact ho0.Xa (show Za w g cur _ from hgg) QZ e.symm):p:=h
theorem QFy{p:Prop}(h:p:=by
 rcases Z7 j ys.length with h|h
 ·exact h
 ·simp[h]at hj):p:=h
theorem QFj{p:Prop}(h:p:=by
 have HP:=Zy hp.symm;clear hp;go_wp2;go_ret2
 exact qo.of HP.out (.inl rfl) hacc):p:=h
theorem QFk{p:Prop}(h:p:=by
 unfold Jc;rw[if_pos QAH,<-HX1.out];exact HSK.out.drewN m):p:=h
theorem QFu{p:Prop}(h:p:=by
 intro j h1 h2 h3;by_cases e:j=i
 ·rw[e];exact rQ.out
 ·exact Kj.out j QQ h2 h3):p:=h
theorem QFv{p:Prop}(h:p:=by
 rw[hg.block k (Zc hk hb.size) (fun e=>hn e.symm),hb.block k hk]):p:=h
theorem QFA{p:Prop}(h:p:=by
 go_wp2
 all_goals
  go_ret;refine⟨Yu ?_,rfl⟩;rw[HF.out,Bool.eq_iff_iff];simp
  try omega):p:=h
theorem QFB{p:Prop}(h:p:=by
 rcases h.xh o s hk x QQ hx2 with⟨j,h1,h2,h3⟩|h1
 ·exact .inl ⟨j,QQ,h2,h3⟩
 ·exact .inr h1):p:=h
theorem QFC{p:Prop}(h:p:=by
 obtain⟨h1,_⟩:=h;split at h1<;>omega):p:=h
theorem QFD{p:Prop}(h:p:=by
 go_ret3
 rw[HF.out,HT.out];refine⟨?_,ZE hacc QJ hb2⟩;simp
 try omega):p:=h
theorem QFE{p:Prop}(h:p:=by
 refine⟨XA ?_,rfl⟩;unfold Fp;omega):p:=h
theorem QFF{p:Prop}(h:p:=by
 split
 ·exact Tl.Yt S
 ·exact Tl.any rfl rfl rfl rfl rfl):p:=h
theorem QFG{p:Prop}(h:p:=by
 go_ret;exact⟨XA HE.out.symm,hb1⟩):p:=h
theorem QFH{p:Prop}(h:p:=by
 go_enter Tryz.func25,Tryz.ntmps25
 go_wp2;go_ret2
 exact⟨ZH _ _,.inl ⟨Kj.out,rfl⟩⟩):p:=h
theorem QFI{p:Prop}(h:p:=by
 go_enter Tryz.func221,Tryz.ntmps221
 go_wp2;go_ret;exact⟨none,.nil,rfl,rfl,rfl,ZH _ _⟩):p:=h
theorem QFL{p:Prop}(h:p:=by
 go_wp2;go_ret;exact⟨rfl,⟨_,H3.out.drew.Uz _⟩,(HA1.out.trans hA3.drew).trans (Yx.set _)⟩):p:=h
theorem QFM{p:Prop}(h:p:=by
 rcases h with h|⟨b,o,ha,h⟩
 ·exact .inl h
 ·exact .inr ⟨b,o,ha,fun i hi=>hc _ _ (h i hi)⟩):p:=h
theorem QFN{p:Prop}(h:p:=by
 unfold Jc;rw[if_neg QAH];exact HBK.out):p:=h
theorem QFO{p:Prop}(h:p:=by
 go_region_law fail
 all_goals
  go_wp2;go_meet;exact⟨rfl,rfl,rfl,(ZH _ _).drew⟩):p:=h
theorem QFP{p:Prop}(h:p:=by
 go_wp2;go_ret;exact⟨rfl,⟨_,H1.out⟩,HA1.out⟩):p:=h
theorem QFR{p:Prop}(h:p:=by
 refine⟨?_,Qn,?_,hmd⟩<;>simp<;>omega):p:=h
theorem QFS{p:Prop}(h:p:=by
 exact ZC (v:=.tuple #[TK.wrong.q,TK.wrong.c,.int .i64 3,.int .i64 0]) QBE rfl (XB.of (hacc _ _ _))):p:=h
theorem QFT{p:Prop}(h:p:=by
 have hy:=vF _ _ _ _ y (Xo hy);simp at h;obtain⟨h1,_⟩:=h;split at h1<;>omega):p:=h
theorem QFa{p:Prop}(h:p:=by
 exact {h with p0:=by dsimp only;omega,p1:=by dsimp only;omega,pc:=fun h=>QAC,md:=.inr (.inl rfl)}):p:=h
theorem QFb{p:Prop}(h:p:=by
 obtain⟨a',n',c',h1,rest⟩:=h;simp only[Xx]at h1;obtain⟨rfl,rfl,rfl⟩:=h1;exact rest):p:=h
theorem QFc{p:Prop}(h:p:=by
 go_enter Tryz.func201,Tryz.ntmps201
 go_wp2;go_ret;exact⟨XA HF.out.symm,hacc⟩):p:=h
theorem QFd{p:Prop}(h:p:=by
 have hy:=Eu _ _ _ y (Xo hy);simp at h;obtain⟨h1,_⟩:=h;split at h1<;>omega):p:=h
theorem QFe{p:Prop}(h:p:=by
 go_ret;exact⟨rfl,hacc⟩):p:=h
theorem QFf{p:Prop}(h:p:=by
 go_ret;refine⟨Yu ?_,rfl⟩;rw[HF.out,Bool.eq_iff_iff];simp
 try omega):p:=h
theorem QFg{p:Prop}(h:p:=by
 rcases h with h|h
 ·subst h;simp at hk
 ·exact h):p:=h
theorem QFh{p:Prop}(h:p:=by
 go_meet;exact⟨rfl,_,QL⟩):p:=h
theorem QFi{p:Prop}(h:p:=by
 intro k hk;rcases hk with hk|hk
 ·exact Zc (h.hf.lt k (.inl hk)) hsz
 ·exact hk.2):p:=h
theorem QFl{p:Prop}(h:p:=by
 clear hp hI hl;go_wp2;go_ret2
 exact qo.of HP.out (.inr ⟨rfl,rfl⟩) hacc):p:=h
theorem QFm{p:Prop}(h:p:=by
 rw[HF.out,HT.out];refine⟨?_,ZE hacc QJ hb2⟩;simp
 try omega):p:=h
theorem QFn{p:Prop}(h:p:=by
 refine⟨a,n,c,h1,h2,h3,h4,h5,h6,fun ad ea p=>?_⟩;subst h1 ea;exact h.row ad.block QBA):p:=h
theorem QFo{p:Prop}(h:p:=by
 obtain⟨a,n,c,h⟩:=(HOW.out i (by rw[F8.out]at hi;exact hi)).form;exact⟨a,n,c,h⟩):p:=h
theorem QFp{p:Prop}(h:p:=by
 go_roundw
 case rel=>exact⟨k+1,Qk,QQ,_,rfl⟩
 case measure=>simp[intOf];omega):p:=h
theorem QFr{p:Prop}(h:p:=by
 go_wp2
 go_end0
 exact⟨rfl,HA.out.done⟩):p:=h
theorem QFs{p:Prop}(h:p:=by
 go_wp2;go_meet;exact⟨_,_,_,hx,rfl,rfl,rfl,((ZH _ _).drew.drew).trans XF⟩):p:=h
theorem QFt{p:Prop}(h:p:=by
 by_cases e:j=i
 ·rw[e];exact rQ.out
 ·exact Kj.out j QQ h2 h3):p:=h
theorem QF0{p:Prop}(h:p:=by
 exact⟨h2.row,h3.kept Jv,h2.pat⟩):p:=h
theorem QF1{p:Prop}(h:p:=by
 go_enter Tryz.func226,Tryz.ntmps226
 go_wp2;go_ret;exact⟨rfl,ZT _ _⟩):p:=h
theorem QF2{p:Prop}(h:p:=by
 have kg:=Zy hA3;clear hA3 hv;go_wp2
 go_end0
 exact⟨rfl,kg.out.done⟩):p:=h
theorem QF3{p:Prop}(h:p:=by
 have hp':tmps[s]?.getD undef=.pointer (some ad):=QBi;simp[results,h,hp',asAddr,hl]):p:=h
theorem QF4{p:Prop}(h:p:=by
 exact ZC (Jw Tryz.results292 rfl (K8 hB2 YS)) rfl ⟨Xu,rfl,OV _ _,hL2.YX QQ hacc⟩):p:=h
theorem QF5{p:Prop}(h:p:=by
 rw[hbel.cell (XU this)];exact this):p:=h
theorem QF6{p:Prop}(h:p:=by
 obtain⟨a,n,c,h1,h2,h3,h4,h5,h6⟩:=h;exact⟨a,n,c,h1,h2,h3,h4,h5.keep hc,h6⟩):p:=h
theorem QF7{p:Prop}(h:p:=by
 rw[show((j.toNat:Nat):Int)=j from QQ,(Kl _ _ _).2 hb]at this;simp at this;omega):p:=h
theorem QF8{p:Prop}(h:p:=by
 clear hK K;refine Zl (rs:=[16]) QX QJ ?_;refine ZO (o:=⟨some 147,_,_,_,_,_⟩) rfl (fun K hK=>?_) ?_
 ·go_simp
  refine(KV J8 J8 0 (some ⟨bb1,V6,none⟩) n cb pa P B _ _ ((kK.out.JZ (Kv ‹_›)).imp (fun q hq=>Zc hq Jl)) hJ8 QQ nu hn QZ).mono ?_;rintro e w9 ⟨rfl,hJ9,Jv,qO⟩;have ny:=Ym ‹_› Yz Yq Jv Jl;have l9:=(X9 Jv (p:=⟨J4,2,none⟩) jO).trans l8;have b9:=XF.trans (Jv.mono uj);dsimp only;refine hK.out _ _ ny (fun hHeld=>?_);clear hK K;refine Zl (rs:=[19]) QX QJ ?_;refine ZO (o:=⟨some 150,_,_,_,_,_⟩) rfl (fun K hK=>?_) ?_
  ·go_simp
   refine(Kh J8 J8 2 (some ⟨bb1,V6,none⟩) n cb P lo hi B _ _ ((kK.out.JZ (Kv ‹_›)).imp (fun q hq=>Zc hq Jl)) hJ9 nu hlh QQ hn QZ).mono ?_;rintro e qB ⟨rfl,IW,JN,IZ⟩;have M7:=Ym ‹_› Yz Yq JN Jl;have l10:=(X9 JN (p:=⟨J4,2,none⟩) jO).trans l9;have b10:=b9.trans (JN.mono uj);dsimp only;refine hK.out _ _ M7 (fun hHeld=>?_);exact QB1
  exact Zg
 exact Zg):p:=h
theorem QF9{p:Prop}(h:p:=by
 clear hK K;refine Zl (rs:=[19]) QX QJ ?_;refine ZO (o:=⟨some 150,_,_,_,_,_⟩) rfl (fun K hK=>?_) ?_
 ·go_simp
  refine(Kh J8 J8 2 (some ⟨bb1,V6,none⟩) n cb P lo hi B _ _ ((kK.out.JZ (Kv ‹_›)).imp (fun q hq=>Zc hq Jl)) hJ9 nu hlh QQ hn QZ).mono ?_;rintro e qB ⟨rfl,IW,JN,IZ⟩;have M7:=Ym ‹_› Yz Yq JN Jl;have l10:=(X9 JN (p:=⟨J4,2,none⟩) jO).trans l9;have b10:=b9.trans (JN.mono uj);dsimp only;refine hK.out _ _ M7 (fun hHeld=>?_);exact QB1
 exact Zg):p:=h
theorem QFw{p:Prop}(h:p:=by
 refine Zl (rs:=[19]) QX QJ ?_;refine ZO (o:=⟨some 150,_,_,_,_,_⟩) rfl (fun K hK=>?_) ?_
 ·go_simp
  refine(Kh J8 J8 2 (some ⟨bb1,V6,none⟩) n cb P lo hi B _ _ ((kK.out.JZ (Kv ‹_›)).imp (fun q hq=>Zc hq Jl)) hJ9 nu hlh QQ hn QZ).mono ?_;rintro e qB ⟨rfl,IW,JN,IZ⟩;have M7:=Ym ‹_› Yz Yq JN Jl;have l10:=(X9 JN (p:=⟨J4,2,none⟩) jO).trans l9;have b10:=b9.trans (JN.mono uj);dsimp only;refine hK.out _ _ M7 (fun hHeld=>?_);exact QB1
 exact Zg):p:=h
theorem QGQ{p:Prop}(h:p:=by
 refine(KV J8 J8 0 (some ⟨bb1,V6,none⟩) n cb pa P B _ _ ((kK.out.JZ (Kv ‹_›)).imp (fun q hq=>Zc hq Jl)) hJ8 QQ nu hn QZ).mono ?_;rintro e w9 ⟨rfl,hJ9,Jv,qO⟩;have ny:=Ym ‹_› Yz Yq Jv Jl;have l9:=(X9 Jv (p:=⟨J4,2,none⟩) jO).trans l8;have b9:=XF.trans (Jv.mono uj);dsimp only;refine hK.out _ _ ny (fun hHeld=>?_);clear hK K;refine Zl (rs:=[19]) QX QJ ?_;refine ZO (o:=⟨some 150,_,_,_,_,_⟩) rfl (fun K hK=>?_) ?_
 ·go_simp
  refine(Kh J8 J8 2 (some ⟨bb1,V6,none⟩) n cb P lo hi B _ _ ((kK.out.JZ (Kv ‹_›)).imp (fun q hq=>Zc hq Jl)) hJ9 nu hlh QQ hn QZ).mono ?_;rintro e qB ⟨rfl,IW,JN,IZ⟩;have M7:=Ym ‹_› Yz Yq JN Jl;have l10:=(X9 JN (p:=⟨J4,2,none⟩) jO).trans l9;have b10:=b9.trans (JN.mono uj);dsimp only;refine hK.out _ _ M7 (fun hHeld=>?_);exact QB1
 exact Zg):p:=h
theorem QGZ{p:Prop}(h:p:=by
 refine ZO (o:=⟨some 150,_,_,_,_,_⟩) rfl (fun K hK=>?_) ?_
 ·go_simp
  refine(Kh J8 J8 2 (some ⟨bb1,V6,none⟩) n cb P lo hi B _ _ ((kK.out.JZ (Kv ‹_›)).imp (fun q hq=>Zc hq Jl)) hJ9 nu hlh QQ hn QZ).mono ?_;rintro e qB ⟨rfl,IW,JN,IZ⟩;have M7:=Ym ‹_› Yz Yq JN Jl;have l10:=(X9 JN (p:=⟨J4,2,none⟩) jO).trans l9;have b10:=b9.trans (JN.mono uj);dsimp only;refine hK.out _ _ M7 (fun hHeld=>?_);exact QB1
 exact Zg):p:=h
theorem QGX{p:Prop}(h:p:=by
 rintro e w9 ⟨rfl,hJ9,Jv,qO⟩;have ny:=Ym ‹_› Yz Yq Jv Jl;have l9:=(X9 Jv (p:=⟨J4,2,none⟩) jO).trans l8;have b9:=XF.trans (Jv.mono uj);dsimp only;refine hK.out _ _ ny (fun hHeld=>?_);clear hK K;refine Zl (rs:=[19]) QX QJ ?_;refine ZO (o:=⟨some 150,_,_,_,_,_⟩) rfl (fun K hK=>?_) ?_
 ·go_simp
  refine(Kh J8 J8 2 (some ⟨bb1,V6,none⟩) n cb P lo hi B _ _ ((kK.out.JZ (Kv ‹_›)).imp (fun q hq=>Zc hq Jl)) hJ9 nu hlh QQ hn QZ).mono ?_;rintro e qB ⟨rfl,IW,JN,IZ⟩;have M7:=Ym ‹_› Yz Yq JN Jl;have l10:=(X9 JN (p:=⟨J4,2,none⟩) jO).trans l9;have b10:=b9.trans (JN.mono uj);dsimp only;refine hK.out _ _ M7 (fun hHeld=>?_);exact QB1
 exact Zg):p:=h
theorem QGY{p:Prop}(h:p:=by
 have ny:=Ym ‹_› Yz Yq Jv Jl;have l9:=(X9 Jv (p:=⟨J4,2,none⟩) jO).trans l8;have b9:=XF.trans (Jv.mono uj);dsimp only;refine hK.out _ _ ny (fun hHeld=>?_);clear hK K;refine Zl (rs:=[19]) QX QJ ?_;refine ZO (o:=⟨some 150,_,_,_,_,_⟩) rfl (fun K hK=>?_) ?_
 ·go_simp
  refine(Kh J8 J8 2 (some ⟨bb1,V6,none⟩) n cb P lo hi B _ _ ((kK.out.JZ (Kv ‹_›)).imp (fun q hq=>Zc hq Jl)) hJ9 nu hlh QQ hn QZ).mono ?_;rintro e qB ⟨rfl,IW,JN,IZ⟩;have M7:=Ym ‹_› Yz Yq JN Jl;have l10:=(X9 JN (p:=⟨J4,2,none⟩) jO).trans l9;have b10:=b9.trans (JN.mono uj);dsimp only;refine hK.out _ _ M7 (fun hHeld=>?_);exact QB1
 exact Zg):p:=h
theorem QGJ{p:Prop}(h:p:=by
 have l9:=(X9 Jv (p:=⟨J4,2,none⟩) jO).trans l8;have b9:=XF.trans (Jv.mono uj);dsimp only;refine hK.out _ _ ny (fun hHeld=>?_);clear hK K;refine Zl (rs:=[19]) QX QJ ?_;refine ZO (o:=⟨some 150,_,_,_,_,_⟩) rfl (fun K hK=>?_) ?_
 ·go_simp
  refine(Kh J8 J8 2 (some ⟨bb1,V6,none⟩) n cb P lo hi B _ _ ((kK.out.JZ (Kv ‹_›)).imp (fun q hq=>Zc hq Jl)) hJ9 nu hlh QQ hn QZ).mono ?_;rintro e qB ⟨rfl,IW,JN,IZ⟩;have M7:=Ym ‹_› Yz Yq JN Jl;have l10:=(X9 JN (p:=⟨J4,2,none⟩) jO).trans l9;have b10:=b9.trans (JN.mono uj);dsimp only;refine hK.out _ _ M7 (fun hHeld=>?_);exact QB1
 exact Zg):p:=h
theorem QGK{p:Prop}(h:p:=by
 have b9:=XF.trans (Jv.mono uj);dsimp only;refine hK.out _ _ ny (fun hHeld=>?_);clear hK K;refine Zl (rs:=[19]) QX QJ ?_;refine ZO (o:=⟨some 150,_,_,_,_,_⟩) rfl (fun K hK=>?_) ?_
 ·go_simp
  refine(Kh J8 J8 2 (some ⟨bb1,V6,none⟩) n cb P lo hi B _ _ ((kK.out.JZ (Kv ‹_›)).imp (fun q hq=>Zc hq Jl)) hJ9 nu hlh QQ hn QZ).mono ?_;rintro e qB ⟨rfl,IW,JN,IZ⟩;have M7:=Ym ‹_› Yz Yq JN Jl;have l10:=(X9 JN (p:=⟨J4,2,none⟩) jO).trans l9;have b10:=b9.trans (JN.mono uj);dsimp only;refine hK.out _ _ M7 (fun hHeld=>?_);exact QB1
 exact Zg):p:=h
theorem QGU{p:Prop}(h:p:=by
 refine(Kh J8 J8 2 (some ⟨bb1,V6,none⟩) n cb P lo hi B _ _ ((kK.out.JZ (Kv ‹_›)).imp (fun q hq=>Zc hq Jl)) hJ9 nu hlh QQ hn QZ).mono ?_;rintro e qB ⟨rfl,IW,JN,IZ⟩;have M7:=Ym ‹_› Yz Yq JN Jl;have l10:=(X9 JN (p:=⟨J4,2,none⟩) jO).trans l9;have b10:=b9.trans (JN.mono uj);dsimp only;refine hK.out _ _ M7 (fun hHeld=>?_);exact QB1):p:=h
theorem QGV{p:Prop}(h:p:=by
 rw[HR.out,HR2.out];have hG:=(hP2.set 0 (.int .i64 (EL r))).set 1 (.bool (WR r));obtain⟨q0,q1,-,-⟩:=Za.two hG;refine ZC (v:=.tuple #[.agg #[.int .i64 (EL r),.bool (WR r)],.int .i64 (Sm r)]) QK rfl ⟨rfl,?_⟩;exact QCe):p:=h
theorem QGW{p:Prop}(h:p:=by
 dsimp only;refine hK.out _ _ ny (fun hHeld=>?_);clear hK K;refine Zl (rs:=[19]) QX QJ ?_;refine ZO (o:=⟨some 150,_,_,_,_,_⟩) rfl (fun K hK=>?_) ?_
 ·go_simp
  refine(Kh J8 J8 2 (some ⟨bb1,V6,none⟩) n cb P lo hi B _ _ ((kK.out.JZ (Kv ‹_›)).imp (fun q hq=>Zc hq Jl)) hJ9 nu hlh QQ hn QZ).mono ?_;rintro e qB ⟨rfl,IW,JN,IZ⟩;have M7:=Ym ‹_› Yz Yq JN Jl;have l10:=(X9 JN (p:=⟨J4,2,none⟩) jO).trans l9;have b10:=b9.trans (JN.mono uj);dsimp only;refine hK.out _ _ M7 (fun hHeld=>?_);exact QB1
 exact Zg):p:=h
theorem QGq{p:Prop}(h:p:=by
 refine hK.out _ _ ny (fun hHeld=>?_);clear hK K;refine Zl (rs:=[19]) QX QJ ?_;refine ZO (o:=⟨some 150,_,_,_,_,_⟩) rfl (fun K hK=>?_) ?_
 ·go_simp
  refine(Kh J8 J8 2 (some ⟨bb1,V6,none⟩) n cb P lo hi B _ _ ((kK.out.JZ (Kv ‹_›)).imp (fun q hq=>Zc hq Jl)) hJ9 nu hlh QQ hn QZ).mono ?_;rintro e qB ⟨rfl,IW,JN,IZ⟩;have M7:=Ym ‹_› Yz Yq JN Jl;have l10:=(X9 JN (p:=⟨J4,2,none⟩) jO).trans l9;have b10:=b9.trans (JN.mono uj);dsimp only;refine hK.out _ _ M7 (fun hHeld=>?_);exact QB1
 exact Zg):p:=h
theorem QGz{p:Prop}(h:p:=by
 rintro e qB ⟨rfl,IW,JN,IZ⟩;have M7:=Ym ‹_› Yz Yq JN Jl;have l10:=(X9 JN (p:=⟨J4,2,none⟩) jO).trans l9;have b10:=b9.trans (JN.mono uj);dsimp only;refine hK.out _ _ M7 (fun hHeld=>?_);exact QB1):p:=h
theorem QGx{p:Prop}(h:p:=by
 have M7:=Ym ‹_› Yz Yq JN Jl;have l10:=(X9 JN (p:=⟨J4,2,none⟩) jO).trans l9;have b10:=b9.trans (JN.mono uj);dsimp only;refine hK.out _ _ M7 (fun hHeld=>?_);exact QB1):p:=h
theorem QGy{p:Prop}(h:p:=by
 rw[HR3.out];have hG:=(hP2.set 0 (.int .i64 (0))).set 1 (.bool false);obtain⟨q0,q1,-,-⟩:=Za.two hG;refine ZC (v:=.tuple #[.agg #[.int .i64 (0),.bool false],.int .i64 5]) QP rfl ⟨rfl,?_⟩;exact QCe):p:=h
theorem QGj{p:Prop}(h:p:=by
 clear hk2;go_enter Tryz.func301,Tryz.ntmps301
 go_wp2_with ((go_at_call 300);refine(Jm a n c l k m _ big _ hI HN.out hn2 hk hm).mono ?_;rintro e w2 ⟨rfl,hb2⟩;rw[HT.out];have hB2:=hB.below hb2 hB.lt;obtain⟨d0,d1,d2,d3⟩:=hB2.four;have hP2:=hP.below hb2 hP.lt;obtain⟨s0,s1,s2,s3⟩:=hP2.two;have Z4:=ZE hacc QY hb2)
 rw[HR.out];have hG:=(hP2.set 0 (.int .i64 (0))).set 1 (.bool false);obtain⟨q0,q1,-,-⟩:=Za.two hG;refine ZC (v:=.tuple #[.agg #[.int .i64 (0),.bool false],.int .i64 5]) ZK rfl ⟨rfl,?_⟩;exact QCe):p:=h
theorem QGk{p:Prop}(h:p:=by
 go_enter Tryz.func302,Tryz.ntmps302
 go_wp2_with ((go_at_call 300);refine(Vj a n c l k m _ big _ hI HN.out hn2 hk hm).mono ?_;rintro e w2 ⟨rfl,hb2⟩;rw[HT.out];have hB2:=hB.below hb2 hB.lt;obtain⟨d0,d1,d2,d3⟩:=hB2.four;have hP2:=hP.below hb2 hP.lt;obtain⟨s0,s1,s2,s3⟩:=hP2.two;have Z4:=ZE hacc QY hb2)
 rw[HR.out];have hG:=(hP2.set 0 (.int .i64 (t))).set 1 (.bool true);obtain⟨q0,q1,-,-⟩:=Za.two hG;refine ZC (v:=.tuple #[.agg #[.int .i64 (t),.bool true],.int .i64 0]) QAM rfl ⟨rfl,?_⟩;exact QCe):p:=h
theorem QGu{p:Prop}(h:p:=by
 have l10:=(X9 JN (p:=⟨J4,2,none⟩) jO).trans l9;have b10:=b9.trans (JN.mono uj);dsimp only;refine hK.out _ _ M7 (fun hHeld=>?_);exact QB1):p:=h
theorem QGv{p:Prop}(h:p:=by
 rw[HR.out,HT.out];have hG:=(hP2.set 0 (.int .i64 (t))).set 1 (.bool false);obtain⟨q0,q1,-,-⟩:=Za.two hG;refine ZC (v:=.tuple #[.agg #[.int .i64 (t),.bool false],.int .i64 0]) QK rfl ⟨rfl,?_⟩;exact QCe):p:=h
theorem QGA{p:Prop}(h:p:=by
 have b10:=b9.trans (JN.mono uj);dsimp only;refine hK.out _ _ M7 (fun hHeld=>?_);exact QB1):p:=h
theorem QGB{p:Prop}(h:p:=by
 go_enter Tryz.func298,Tryz.ntmps298
 go_wp2;rw[HR.out,HM.out];have hG:=(hP.set 0 (.int .i64 ((k:Int)+m))).set 1 (.bool false);obtain⟨q0,q1,-,-⟩:=Za.two hG;refine ZC (v:=.tuple #[.agg #[.int .i64 ((k:Int)+m),.bool false],.int .i64 0]) Ql rfl ⟨rfl,?_⟩;exact QCo):p:=h
theorem QGC{p:Prop}(h:p:=by
 go_enter Tryz.func298,Tryz.ntmps298
 go_wp2;rw[HR.out];have hG:=(hP.set 0 (.int .i64 (0))).set 1 (.bool false);obtain⟨q0,q1,-,-⟩:=Za.two hG;refine ZC (v:=.tuple #[.agg #[.int .i64 (0),.bool false],.int .i64 5]) Ql rfl ⟨rfl,?_⟩;exact QCo):p:=h
theorem QGD{p:Prop}(h:p:=by
 have hX:=Ug.start w f r o s 0;obtain⟨b1,b2,b3,b4,b5⟩:=J2 hp;have HP:=Zy hp;clear hp;rw[Uh hu,hk,if_neg QQ,if_neg QQ,if_neg QQ,if_pos QQ];have u1:32<=key:=Qe;have u2:(key==127)=false:=QO;clear hu;have HK:=Zy hk;clear hk;exact QCi):p:=h
theorem QGE{p:Prop}(h:p:=by
 rw[HR.out];have hG:=(hP2.set 0 (.int .i64 (0))).set 1 (.bool false);obtain⟨q0,q1,-,-⟩:=Za.two hG;refine ZC (v:=.tuple #[.agg #[.int .i64 (0),.bool false],.int .i64 5]) QAL rfl ⟨rfl,?_⟩;exact QCe):p:=h
theorem QGF{p:Prop}(h:p:=by
 dsimp only;refine hK.out _ _ M7 (fun hHeld=>?_);exact QB1):p:=h
theorem QGG{p:Prop}(h:p:=by
 have hG:=(hP.set 0 (.int .i64 (0))).set 1 (.bool false);obtain⟨q0,q1,-,-⟩:=Za.two hG;refine ZC (v:=.tuple #[.agg #[.int .i64 (0),.bool false],.int .i64 0]) QK rfl ⟨rfl,?_⟩;exact QCo):p:=h
theorem QGH{p:Prop}(h:p:=by
 go_wp2
 go_end0
 have h1:=HA.out.store (S':={S with pos:=max 0 (S.pos-1)}) 1 (.int .i64 0) {HA.out.hf.d with pos:=by rw[<-HSP.out];rfl};exact QDi):p:=h
theorem QGI{p:Prop}(h:p:=by
 refine hK.out _ _ M7 (fun hHeld=>?_);exact QB1):p:=h
theorem QGL{p:Prop}(h:p:=by
 have x3:(cm.c==121)=false:=Qv7;clear e;exact QDL):p:=h
theorem QGM{p:Prop}(h:p:=by
 go_enter Tryz.func84,Tryz.ntmps84
 go_wp2_with fail
 refine HB.out.mono ?_;rintro e w7 ⟨rfl,hv⟩;exact QEO):p:=h
theorem QGN{p:Prop}(h:p:=by
 obtain⟨a,n,c,h1,h2,h3,h4,h5,h6,h7⟩:=h;refine⟨a,n,c,h1,h2,h3,h4,h5,h6,fun ad e p=>⟨h7 ad e p,?_⟩⟩;exact QD8):p:=h
theorem QGO{p:Prop}(h:p:=by
 obtain⟨a,n,c,h1,h2,h3,h4,h5,h6⟩:=h;refine⟨a,n,c,h1,h2,h3,h4,h5,h6,fun ad e p=>?_⟩;exact QD8):p:=h
theorem QGP{p:Prop}(h:p:=by
 clear hbx;go_enter Tryz.func289,Tryz.ntmps289
 go_wp2_with ((go_at_call 297);refine(U6 a n c l k m op arg _ hI HN.out hn2 hk hm0 QQ).mono ?_;rintro e w2 ⟨rfl,hb2⟩;rw[HR2.out];have hB2:=hB.below hb2 hB.lt;obtain⟨d0,d1,d2,d3⟩:=hB2.four;have hP2:=hP.below hb2 hP.lt;obtain⟨s0,s1,s2,s3⟩:=hP2.two;have Z4:=ZE hacc QY hb2;have z1:oK none=0:=rfl;have z2:oJ none=5:=rfl)
 exact QGy):p:=h
theorem QGR{p:Prop}(h:p:=by
 clear hbx;go_enter Tryz.func289,Tryz.ntmps289
 go_wp2_with ((go_at_call 297);refine(UJ a n c l k m op arg _ hI HN.out hn2 hk hm0 QQ).mono ?_;rintro e w2 ⟨rfl,hb2⟩;rw[HR2.out];have hB2:=hB.below hb2 hB.lt;obtain⟨d0,d1,d2,d3⟩:=hB2.four;have hP2:=hP.below hb2 hP.lt;obtain⟨s0,s1,s2,s3⟩:=hP2.two;have Z4:=ZE hacc QY hb2;have z1:oK none=0:=rfl;have z2:oJ none=5:=rfl)
 exact QGy):p:=h
end Go.Proofs.YtmdcencmiopmmaaGreat

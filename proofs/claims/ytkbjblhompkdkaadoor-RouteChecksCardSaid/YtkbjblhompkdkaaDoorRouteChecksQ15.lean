/- YtkbjblhompkdkaaDoorRouteChecksQ15: PCx2, LexDoc, LexPrintDoc, RouteDepth -/
import Derived.Test.YtkbjblhompkdkaaDoorRouteChecksQ11
import Derived.Test.YtkbjblhompkdkaaDoorRouteChecksQ14
import Derived.Test.YtkbjblhompkdkaaDoorRouteChecksQ4
import Derived.Test.YtkbjblhompkdkaaDoorRouteChecksQ5
import Derived.Test.YtkbjblhompkdkaaDoorRouteChecksQ8
import Derived.Test.YtkbjblhompkdkaaDoorRouteChecksQ7
import Derived.Test.YtkbjblhompkdkaaDoorRouteChecksQ9
namespace Go.Proofs.YtkbjblhompkdkaaDoor.PC
open Go.Proofs.YtkbjblhompkdkaaDoor.PA Go.Proofs.YtkbjblhompkdkaaDoor.PB
open Go.RowKit Go.Proofs.YtkbjblhompkdkaaDoorW.PrintWords Go.Proofs.YtkbjblhompkdkaaDoorW.PrintLast
set_option linter.unusedVariables false
set_option linter.unusedSimpArgs false
mutual
def placketref16_depths.l0:Nat→List (S24)→Int→List (S24)→Int→Int→Option (Bool)
 | 0,_,_,_,_,_=>none
 | k+1,x0,x3,x6,x7,x8=>if x8 < x7 then (if 0≤x8 then (if x8 < (x6.length:Int) then (if ((rd_T24 x6 x8).f0)=1 then (placketref16_depths.j1 k x0 x3 x6 x7 x8 (((rd_T24 x6 x8).f4).toList == ([40]:List UInt8)) ((rd_T24 x6 x8).f0) ((rd_T24 x6 x8).f1) ((rd_T24 x6 x8).f2) ((rd_T24 x6 x8).f3) ((rd_T24 x6 x8).f4)) else (placketref16_depths.j1 k x0 x3 x6 x7 x8 false ((rd_T24 x6 x8).f0) ((rd_T24 x6 x8).f1) ((rd_T24 x6 x8).f2) ((rd_T24 x6 x8).f3) ((rd_T24 x6 x8).f4))) else (none)) else (none)) else (if x3=0 then (some (decide ((x0.length:Int) > 0))) else (some false))
def placketref16_depths.j1:Nat→List (S24)→Int→List (S24)→Int→Int→Bool→Int→Int→Int→Int→ByteArray→Option (Bool)
 | 0,_,_,_,_,_,_,_,_,_,_,_=>none
 | k+1,x0,x3,x6,x7,x8,x19,x111000,x111001,x111002,x111003,x111004=>if x19=true then (placketref16_depths.j2 k x0 (wrap64 (x3+1)) x6 x7 x8 x111000 x111001 x111002 x111003 x111004) else (placketref16_depths.j2 k x0 x3 x6 x7 x8 x111000 x111001 x111002 x111003 x111004)
def placketref16_depths.j2:Nat→List (S24)→Int→List (S24)→Int→Int→Int→Int→Int→Int→ByteArray→Option (Bool)
 | 0,_,_,_,_,_,_,_,_,_,_=>none
 | k+1,x0,x3,x6,x7,x8,x111000,x111001,x111002,x111003,x111004=>if x111000=1 then (placketref16_depths.j3 k x0 x3 x6 x7 x8 (x111004.toList == ([41]:List UInt8))) else (placketref16_depths.j3 k x0 x3 x6 x7 x8 false)
def placketref16_depths.j3:Nat→List (S24)→Int→List (S24)→Int→Int→Bool→Option (Bool)
 | 0,_,_,_,_,_,_=>none
 | k+1,x0,x3,x6,x7,x8,x29=>if x29=true then (if (wrap64 (x3 - 1)) < 0 then (some false) else (placketref16_depths.l0 k x0 (wrap64 (x3 - 1)) x6 x7 (wrap64 (x8+1)))) else (if x3 < 0 then (some false) else (placketref16_depths.l0 k x0 x3 x6 x7 (wrap64 (x8+1))))
end
def placketref16_depths.f (k:Nat) (l0:List (S24)):Option (Bool):=placketref16_depths.l0 k l0 0 l0 (l0.length:Int) 0
set_option maxHeartbeats 8000000 in
set_option maxRecDepth 100000 in
theorem placketref16_depths.calls (k:Nat) (A0:Option Addr) (c0:Nat) (l0:List (S24)) (r:Bool) (w:World) (hr0:Kd.C k24 w A0 l0.length l0) (hc0:l0.length≤c0) (h:placketref16_depths.f k l0=some r) :
  Calls Tryd.prog 62 #[.slice A0 l0.length c0] w fun e w'=>e = .returned (.bool r)∧Below w.heap.size w w':=by
 have hu24:=Tryd.underlying24;have HR0:=Aside0.mk hr0;have HC0:=Aside0.mk hc0;clear hr0 hc0;have HB:=Aside0.mk (Below.refl w.heap.size w);have H:(placketref16_depths.l0 k l0 0 l0 (l0.length:Int) 0)=some r:=h;clear h;have H':=Aside0.mk H;clear H;(go_enter Tryd.func62,Tryd.ntmps62);go_wp2;go_loopg [3,8] k (fun kq v3 v8 w'=>∃ (x3_1:Int) (x8_1:Int),v3 = .int .i64 x3_1∧v8 = .int .i64 x8_1∧Aside0 (placketref16_depths.l0 kq l0 x3_1 l0 (l0.length:Int) x8_1=some r)∧Aside0 (kq≤k)∧Aside0 (Below w.heap.size w w'))
 case atStart=>exact ⟨(0),(0),(by first|rfl|(simp;done)|(simp [*];done)),(by first|rfl|(simp;done)|(simp [*];done)),H',⟨Nat.le_refl _⟩,⟨bw HB.out⟩⟩
 case round=>
  clear H';obtain ⟨x3_1,x8_1,rfl,rfl,HA,HK1,HB⟩:=hrel;cases gk with
  | zero=>exact absurd HA.out (by simp [placketref16_depths.l0])
  | succ k1=>
   have H:=HA.out;clear HA;simp only [placketref16_depths.l0] at H;by_cases c2:x8_1 < (l0.length:Int)
   ·rw [if_pos c2] at H;have c2b0:decide (x8_1 < (l0.length:Int))=true:=decide_eq_true c2;clear c2;by_cases c3:0≤x8_1
    ·rw [if_pos c3] at H;have c3b0:decide (0≤x8_1)=true:=decide_eq_true c3;clear c3;by_cases c4:x8_1 < (l0.length:Int)
     ·rw [if_pos c4] at H;have c4b0:decide (x8_1 < (l0.length:Int))=true:=decide_eq_true c4;clear c4;have HC5:=Aside0.mk H;clear H;have p109:0≤(x8_1:Int):=of_decide_eq_true (by assumption);have q109:x8_1 < (l0.length:Int):=of_decide_eq_true (by assumption);obtain ⟨ad109,e109,hx109_0,hx109_1,hx109_2,hx109_3,hx109_4⟩:=at_T24 HR0.out x8_1 p109 q109;cases e109;replace hx109_0:=(HB.out.cell (World.block_lt_of_cell? w _ hx109_0)).trans hx109_0;replace hx109_1:=(HB.out.cell (World.block_lt_of_cell? w _ hx109_1)).trans hx109_1;replace hx109_2:=(HB.out.cell (World.block_lt_of_cell? w _ hx109_2)).trans hx109_2;replace hx109_3:=(HB.out.cell (World.block_lt_of_cell? w _ hx109_3)).trans hx109_3;replace hx109_4:=(HB.out.cell (World.block_lt_of_cell? w _ hx109_4)).trans hx109_4;replace p109:=eq_true p109;replace q109:=eq_true q109;go_upto_region 5 with (first|((with_reducible refine gate_dst (N:=5) rfl ?_);(try (refine gate_guard (by rfl) ?_;dsimp only));refine box_event ?hg (N:=5) ?hd (cs:=#[.int .i64 0,.int .i64 0,.int .i64 0,.int .i64 0,.string (⟨#[]⟩:ByteArray)]) (t:=24) ?hr ?_;(case hd=>rfl);(case hg=>rfl);(case hr=>first|(go_simp;done)|(go_simp;rfl));intro gb110 hg w6 hbox hb;have n0_:=Aside0.mk (below_step (bw HB.out) hb);have n1_:=Aside0.mk (hbox);have n2_:=Aside0.mk ((by rw [hg];exact (below_size (bw HB.out)):w.heap.size≤gb110));have n3_:=Aside0.mk ((by rw [hg];exact (below_size (bw HB.out)):w.heap.size≤gb110));clear HB;have HB:=n0_;have BK110:=n1_;have GW110:=n2_;have GE110:=n3_;clear n0_ n1_ n2_ n3_;clear hb hbox hg;obtain ⟨hcz7_0,hcz7_1,hcz7_2,hcz7_3,hcz7_4⟩:=cells5 BK110.out;obtain ⟨hfz7_0,hfz7_1,hfz7_2,hfz7_3,hfz7_4⟩:=frozen5 BK110.out))
      (try simp only [Act.put,List.setIfInBounds_toArray,List.set_cons_zero,List.set_cons_succ])
      go_cut [19] (fun v19 wc=>∃ (kq:Nat) (x19_4:Bool),v19 = .bool x19_4∧Aside0 (placketref16_depths.j1 kq l0 x3_1 l0 (l0.length:Int) x8_1 x19_4 ((rd_T24 l0 x8_1).f0) ((rd_T24 l0 x8_1).f1) ((rd_T24 l0 x8_1).f2) ((rd_T24 l0 x8_1).f3) ((rd_T24 l0 x8_1).f4)=some r)∧Aside0 (kq≤k1)∧Aside0 (wc.heap[gb110]? = some (.cells #[.int .i64 ((rd_T24 l0 x8_1).f0),.int .i64 ((rd_T24 l0 x8_1).f1),.int .i64 ((rd_T24 l0 x8_1).f2),.int .i64 ((rd_T24 l0 x8_1).f3),.string ((rd_T24 l0 x8_1).f4)] 24 (0,0)))∧Aside0 (Below w.heap.size w wc))
      case first=>
       have H:=HC5.out;clear HC5;by_cases c8:((rd_T24 l0 x8_1).f0)=1
       ·rw [if_pos c8] at H;have c8b0:(((rd_T24 l0 x8_1).f0) == 1)=true:=beq_iff_eq.mpr c8;have c8b1:(((rd_T24 l0 x8_1).f0) != 1)=false:=bne_eq_false_iff_eq.mpr c8;clear c8
        (first|rw [c8b0]|(simp only [i64_w,i32_w];rw [c8b0])|skip)
        have H':=Aside0.mk H;clear H;have hcz9_0:w6.cell? ⟨gb110,0,none⟩=some (.int .i64 0):=(blk_cell BK110.out 0).trans rfl;have hcz9_1:w6.cell? ⟨gb110,1,none⟩=some (.int .i64 0):=(blk_cell BK110.out 1).trans rfl;have hcz9_2:w6.cell? ⟨gb110,2,none⟩=some (.int .i64 0):=(blk_cell BK110.out 2).trans rfl;have hcz9_3:w6.cell? ⟨gb110,3,none⟩=some (.int .i64 0):=(blk_cell BK110.out 3).trans rfl;have hcz9_4:w6.cell? ⟨gb110,4,none⟩=some (.string (⟨#[]⟩:ByteArray)):=(blk_cell BK110.out 4).trans rfl;have hfz9_0:=blk_frozen BK110.out 0;have hfz9_1:=blk_frozen BK110.out 1;have hfz9_2:=blk_frozen BK110.out 2;have hfz9_3:=blk_frozen BK110.out 3;have hfz9_4:=blk_frozen BK110.out 4;go_wp2;go_meet
        case rel=>exact ⟨_,((((rd_T24 l0 x8_1).f4).toList == ([40]:List UInt8))),(by first|rfl|(simp;done)|(simp [*];done)),H',⟨by have:=HK1.out;first|omega|exact Nat.le_refl _⟩,⟨by (with_reducible repeat (first|refine blk_drewN ?_ _|refine blk_drew ?_|refine blk_alloc ?_ _));refine blk_put (cs:=#[.int .i64 ((rd_T24 l0 x8_1).f0),.int .i64 ((rd_T24 l0 x8_1).f1),.int .i64 ((rd_T24 l0 x8_1).f2),.int .i64 ((rd_T24 l0 x8_1).f3),.string (⟨#[]⟩:ByteArray)]) ?_ 4 _ rfl;(with_reducible repeat (first|refine blk_drewN ?_ _|refine blk_drew ?_|refine blk_alloc ?_ _));refine blk_put (cs:=#[.int .i64 ((rd_T24 l0 x8_1).f0),.int .i64 ((rd_T24 l0 x8_1).f1),.int .i64 ((rd_T24 l0 x8_1).f2),.int .i64 0,.string (⟨#[]⟩:ByteArray)]) ?_ 3 _ rfl;(with_reducible repeat (first|refine blk_drewN ?_ _|refine blk_drew ?_|refine blk_alloc ?_ _));refine blk_put (cs:=#[.int .i64 ((rd_T24 l0 x8_1).f0),.int .i64 ((rd_T24 l0 x8_1).f1),.int .i64 0,.int .i64 0,.string (⟨#[]⟩:ByteArray)]) ?_ 2 _ rfl;(with_reducible repeat (first|refine blk_drewN ?_ _|refine blk_drew ?_|refine blk_alloc ?_ _));refine blk_put (cs:=#[.int .i64 ((rd_T24 l0 x8_1).f0),.int .i64 0,.int .i64 0,.int .i64 0,.string (⟨#[]⟩:ByteArray)]) ?_ 1 _ rfl;(with_reducible repeat (first|refine blk_drewN ?_ _|refine blk_drew ?_|refine blk_alloc ?_ _));refine blk_put (cs:=#[.int .i64 0,.int .i64 0,.int .i64 0,.int .i64 0,.string (⟨#[]⟩:ByteArray)]) ?_ 0 _ rfl;(with_reducible repeat (first|refine blk_drewN ?_ _|refine blk_drew ?_|refine blk_alloc ?_ _));exact BK110.out⟩,⟨by repeat (first|(with_reducible first|exact HB.out|apply below_alloc|apply pw_below_drewN|apply below_drew1|refine below_set ?_ GE110.out)|exact HB.out)⟩⟩
       ·rw [if_neg c8] at H;have c8b0:(((rd_T24 l0 x8_1).f0) == 1)=false:=beq_eq_false_iff_ne.mpr c8;have c8b1:(((rd_T24 l0 x8_1).f0) != 1)=true:=bne_iff_ne.mpr c8
        (first|rw [c8b0]|(simp only [i64_w,i32_w];rw [c8b0])|skip)
        have H':=Aside0.mk H;clear H;have hcz10_0:w6.cell? ⟨gb110,0,none⟩=some (.int .i64 0):=(blk_cell BK110.out 0).trans rfl;have hcz10_1:w6.cell? ⟨gb110,1,none⟩=some (.int .i64 0):=(blk_cell BK110.out 1).trans rfl;have hcz10_2:w6.cell? ⟨gb110,2,none⟩=some (.int .i64 0):=(blk_cell BK110.out 2).trans rfl;have hcz10_3:w6.cell? ⟨gb110,3,none⟩=some (.int .i64 0):=(blk_cell BK110.out 3).trans rfl;have hcz10_4:w6.cell? ⟨gb110,4,none⟩=some (.string (⟨#[]⟩:ByteArray)):=(blk_cell BK110.out 4).trans rfl;have hfz10_0:=blk_frozen BK110.out 0;have hfz10_1:=blk_frozen BK110.out 1;have hfz10_2:=blk_frozen BK110.out 2;have hfz10_3:=blk_frozen BK110.out 3;have hfz10_4:=blk_frozen BK110.out 4;go_wp2;go_meet
        case rel=>exact ⟨_,(false),(by first|rfl|(simp;done)|(simp [*];done)),H',⟨by have:=HK1.out;first|omega|exact Nat.le_refl _⟩,⟨by (with_reducible repeat (first|refine blk_drewN ?_ _|refine blk_drew ?_|refine blk_alloc ?_ _));refine blk_put (cs:=#[.int .i64 ((rd_T24 l0 x8_1).f0),.int .i64 ((rd_T24 l0 x8_1).f1),.int .i64 ((rd_T24 l0 x8_1).f2),.int .i64 ((rd_T24 l0 x8_1).f3),.string (⟨#[]⟩:ByteArray)]) ?_ 4 _ rfl;(with_reducible repeat (first|refine blk_drewN ?_ _|refine blk_drew ?_|refine blk_alloc ?_ _));refine blk_put (cs:=#[.int .i64 ((rd_T24 l0 x8_1).f0),.int .i64 ((rd_T24 l0 x8_1).f1),.int .i64 ((rd_T24 l0 x8_1).f2),.int .i64 0,.string (⟨#[]⟩:ByteArray)]) ?_ 3 _ rfl;(with_reducible repeat (first|refine blk_drewN ?_ _|refine blk_drew ?_|refine blk_alloc ?_ _));refine blk_put (cs:=#[.int .i64 ((rd_T24 l0 x8_1).f0),.int .i64 ((rd_T24 l0 x8_1).f1),.int .i64 0,.int .i64 0,.string (⟨#[]⟩:ByteArray)]) ?_ 2 _ rfl;(with_reducible repeat (first|refine blk_drewN ?_ _|refine blk_drew ?_|refine blk_alloc ?_ _));refine blk_put (cs:=#[.int .i64 ((rd_T24 l0 x8_1).f0),.int .i64 0,.int .i64 0,.int .i64 0,.string (⟨#[]⟩:ByteArray)]) ?_ 1 _ rfl;(with_reducible repeat (first|refine blk_drewN ?_ _|refine blk_drew ?_|refine blk_alloc ?_ _));refine blk_put (cs:=#[.int .i64 0,.int .i64 0,.int .i64 0,.int .i64 0,.string (⟨#[]⟩:ByteArray)]) ?_ 0 _ rfl;(with_reducible repeat (first|refine blk_drewN ?_ _|refine blk_drew ?_|refine blk_alloc ?_ _));exact BK110.out⟩,⟨by repeat (first|(with_reducible first|exact HB.out|apply below_alloc|apply pw_below_drewN|apply below_drew1|refine below_set ?_ GE110.out)|exact HB.out)⟩⟩
      case rest=>
       clear HC5;(try clear p1);(try clear q1);(try clear hx1);(try clear c2);(try clear c2b0);(try clear p2);(try clear c3);(try clear c3b0);(try clear c4);(try clear c4b0);(try clear c6);(try clear c8);(try clear c8b0);(try clear c8b1);(try clear p10);(try clear q10);(try clear hx10);(try clear hcz10_0);(try clear hcz10_1);(try clear hcz10_2);(try clear hcz10_3);(try clear hcz10_4);(try clear hcz7_0);(try clear hcz7_1);(try clear hcz7_2);(try clear hcz7_3);(try clear hcz7_4);(try clear hcz9_0);(try clear hcz9_1);(try clear hcz9_2);(try clear hcz9_3);(try clear hcz9_4);(try clear hfz10_0);(try clear hfz10_1);(try clear hfz10_2);(try clear hfz10_3);(try clear hfz10_4);(try clear hfz7_0);(try clear hfz7_1);(try clear hfz7_2);(try clear hfz7_3);(try clear hfz7_4);(try clear hfz9_0);(try clear hfz9_1);(try clear hfz9_2);(try clear hfz9_3);(try clear hfz9_4);(try clear hx109_0);(try clear hx109_1);(try clear hx109_2);(try clear hx109_3);(try clear hx109_4);(try clear p109);(try clear q109);obtain ⟨kq,x19_4,rfl,HA,HJ4,BK110,HB⟩:=hcut;cases kq with
       | zero=>exact absurd HA.out (by simp [placketref16_depths.j1])
       | succ kj4=>
        have H:=HA.out;clear HA;simp only [placketref16_depths.j1] at H;have HC11:=Aside0.mk H;clear H;go_upto_if 19 with (fail)
        go_cut [3] (fun v3 wc=>∃ (kq:Nat) (x3_10:Int),v3 = .int .i64 x3_10∧Aside0 (placketref16_depths.j2 kq l0 x3_10 l0 (l0.length:Int) x8_1 ((rd_T24 l0 x8_1).f0) ((rd_T24 l0 x8_1).f1) ((rd_T24 l0 x8_1).f2) ((rd_T24 l0 x8_1).f3) ((rd_T24 l0 x8_1).f4)=some r)∧Aside0 (kq≤kj4)∧Aside0 (wc.heap[gb110]? = some (.cells #[.int .i64 ((rd_T24 l0 x8_1).f0),.int .i64 ((rd_T24 l0 x8_1).f1),.int .i64 ((rd_T24 l0 x8_1).f2),.int .i64 ((rd_T24 l0 x8_1).f3),.string ((rd_T24 l0 x8_1).f4)] 24 (0,0)))∧Aside0 (Below w.heap.size w wc))
        case first=>
         have H:=HC11.out;clear HC11;by_cases c12:x19_4=true
         ·subst c12;(have H1:(placketref16_depths.j2 kj4 l0 (wrap64 (x3_1+1)) l0 (l0.length:Int) x8_1 ((rd_T24 l0 x8_1).f0) ((rd_T24 l0 x8_1).f1) ((rd_T24 l0 x8_1).f2) ((rd_T24 l0 x8_1).f3) ((rd_T24 l0 x8_1).f4))=some r:=by rw [if_pos rfl] at H;exact H);clear H;have H:=H1;clear H1;have H':=Aside0.mk H;clear H;go_wp2;go_meet
          case rel=>exact ⟨_,(wrap64 (x3_1+1)),(by first|rfl|(simp;done)|(simp [*];done)),H',⟨by have:=HK1.out;have:=HJ4.out;first|omega|exact Nat.le_refl _⟩,⟨by (with_reducible repeat (first|refine blk_drewN ?_ _|refine blk_drew ?_|refine blk_alloc ?_ _));exact BK110.out⟩,⟨by repeat (first|(with_reducible first|exact HB.out|apply below_alloc|apply pw_below_drewN|apply below_drew1|refine below_set ?_ GE110.out)|exact HB.out)⟩⟩
         ·replace c12:=Bool.eq_false_iff.mpr c12;subst c12;(have H1:(placketref16_depths.j2 kj4 l0 x3_1 l0 (l0.length:Int) x8_1 ((rd_T24 l0 x8_1).f0) ((rd_T24 l0 x8_1).f1) ((rd_T24 l0 x8_1).f2) ((rd_T24 l0 x8_1).f3) ((rd_T24 l0 x8_1).f4))=some r:=by rw [if_neg (show ¬ (false=true) by decide)] at H;exact H);clear H;have H:=H1;clear H1;have H':=Aside0.mk H;clear H;go_wp2;go_meet
          case rel=>exact ⟨_,(x3_1),(by first|rfl|(simp;done)|(simp [*];done)),H',⟨by have:=HK1.out;have:=HJ4.out;first|omega|exact Nat.le_refl _⟩,⟨by (with_reducible repeat (first|refine blk_drewN ?_ _|refine blk_drew ?_|refine blk_alloc ?_ _));exact BK110.out⟩,⟨by repeat (first|(with_reducible first|exact HB.out|apply below_alloc|apply pw_below_drewN|apply below_drew1|refine below_set ?_ GE110.out)|exact HB.out)⟩⟩
        case rest=>
         clear HC11;(try clear c1);(try clear p1);(try clear q1);(try clear hx1);(try clear c2);(try clear c2b0);(try clear p2);(try clear c3);(try clear c3b0);(try clear c4);(try clear c4b0);(try clear c6);(try clear p6);(try clear c8);(try clear c8b0);(try clear c8b1);(try clear p10);(try clear q10);(try clear hx10);(try clear c12);(try clear hcz10_0);(try clear hcz10_1);(try clear hcz10_2);(try clear hcz10_3);(try clear hcz10_4);(try clear hcz7_0);(try clear hcz7_1);(try clear hcz7_2);(try clear hcz7_3);(try clear hcz7_4);(try clear hcz9_0);(try clear hcz9_1);(try clear hcz9_2);(try clear hcz9_3);(try clear hcz9_4);(try clear hfz10_0);(try clear hfz10_1);(try clear hfz10_2);(try clear hfz10_3);(try clear hfz10_4);(try clear hfz7_0);(try clear hfz7_1);(try clear hfz7_2);(try clear hfz7_3);(try clear hfz7_4);(try clear hfz9_0);(try clear hfz9_1);(try clear hfz9_2);(try clear hfz9_3);(try clear hfz9_4);(try clear hx109_0);(try clear hx109_1);(try clear hx109_2);(try clear hx109_3);(try clear hx109_4);(try clear p1);(try clear p10);(try clear p109);(try clear p2);(try clear q1);(try clear q10);(try clear q109);obtain ⟨kq,x3_10,rfl,HA,HJ10,BK110,HB⟩:=hcut;cases kq with
         | zero=>exact absurd HA.out (by simp [placketref16_depths.j2])
         | succ kj10=>
          have H:=HA.out;clear HA;simp only [placketref16_depths.j2] at H;have HC13:=Aside0.mk H;clear H;(go_upto_region 7 with (fail));go_cut [29] (fun v29 wc=>∃ (kq:Nat) (x29_12:Bool),v29 = .bool x29_12∧Aside0 (placketref16_depths.j3 kq l0 x3_10 l0 (l0.length:Int) x8_1 x29_12=some r)∧Aside0 (kq≤kj10)∧Aside0 (wc.heap[gb110]? = some (.cells #[.int .i64 ((rd_T24 l0 x8_1).f0),.int .i64 ((rd_T24 l0 x8_1).f1),.int .i64 ((rd_T24 l0 x8_1).f2),.int .i64 ((rd_T24 l0 x8_1).f3),.string ((rd_T24 l0 x8_1).f4)] 24 (0,0)))∧Aside0 (Below w.heap.size w wc))
          case first=>
           have H:=HC13.out;clear HC13;by_cases c14:((rd_T24 l0 x8_1).f0)=1
           ·rw [if_pos c14] at H;have c14b0:(((rd_T24 l0 x8_1).f0) == 1)=true:=beq_iff_eq.mpr c14;have c14b1:(((rd_T24 l0 x8_1).f0) != 1)=false:=bne_eq_false_iff_eq.mpr c14;clear c14
            (first|rw [c14b0]|(simp only [i64_w,i32_w];rw [c14b0])|skip)
            have H':=Aside0.mk H;clear H;have hcz15_0:wc.cell? ⟨gb110,0,none⟩=some (.int .i64 ((rd_T24 l0 x8_1).f0)):=(blk_cell BK110.out 0).trans rfl;have hcz15_1:wc.cell? ⟨gb110,1,none⟩=some (.int .i64 ((rd_T24 l0 x8_1).f1)):=(blk_cell BK110.out 1).trans rfl;have hcz15_2:wc.cell? ⟨gb110,2,none⟩=some (.int .i64 ((rd_T24 l0 x8_1).f2)):=(blk_cell BK110.out 2).trans rfl;have hcz15_3:wc.cell? ⟨gb110,3,none⟩=some (.int .i64 ((rd_T24 l0 x8_1).f3)):=(blk_cell BK110.out 3).trans rfl;have hcz15_4:wc.cell? ⟨gb110,4,none⟩=some (.string ((rd_T24 l0 x8_1).f4)):=(blk_cell BK110.out 4).trans rfl;have hfz15_0:=blk_frozen BK110.out 0;have hfz15_1:=blk_frozen BK110.out 1;have hfz15_2:=blk_frozen BK110.out 2;have hfz15_3:=blk_frozen BK110.out 3;have hfz15_4:=blk_frozen BK110.out 4;go_wp2;go_meet
            case rel=>exact ⟨_,((((rd_T24 l0 x8_1).f4).toList == ([41]:List UInt8))),(by first|rfl|(simp;done)|(simp [*];done)),H',⟨by have:=HK1.out;have:=HJ4.out;have:=HJ10.out;first|omega|exact Nat.le_refl _⟩,⟨by (with_reducible repeat (first|refine blk_drewN ?_ _|refine blk_drew ?_|refine blk_alloc ?_ _));exact BK110.out⟩,⟨by repeat (first|(with_reducible first|exact HB.out|apply below_alloc|apply pw_below_drewN|apply below_drew1|refine below_set ?_ GE110.out)|exact HB.out)⟩⟩
           ·rw [if_neg c14] at H;have c14b0:(((rd_T24 l0 x8_1).f0) == 1)=false:=beq_eq_false_iff_ne.mpr c14;have c14b1:(((rd_T24 l0 x8_1).f0) != 1)=true:=bne_iff_ne.mpr c14
            (first|rw [c14b0]|(simp only [i64_w,i32_w];rw [c14b0])|skip)
            have H':=Aside0.mk H;clear H;have hcz16_0:wc.cell? ⟨gb110,0,none⟩=some (.int .i64 ((rd_T24 l0 x8_1).f0)):=(blk_cell BK110.out 0).trans rfl;have hcz16_1:wc.cell? ⟨gb110,1,none⟩=some (.int .i64 ((rd_T24 l0 x8_1).f1)):=(blk_cell BK110.out 1).trans rfl;have hcz16_2:wc.cell? ⟨gb110,2,none⟩=some (.int .i64 ((rd_T24 l0 x8_1).f2)):=(blk_cell BK110.out 2).trans rfl;have hcz16_3:wc.cell? ⟨gb110,3,none⟩=some (.int .i64 ((rd_T24 l0 x8_1).f3)):=(blk_cell BK110.out 3).trans rfl;have hcz16_4:wc.cell? ⟨gb110,4,none⟩=some (.string ((rd_T24 l0 x8_1).f4)):=(blk_cell BK110.out 4).trans rfl;have hfz16_0:=blk_frozen BK110.out 0;have hfz16_1:=blk_frozen BK110.out 1;have hfz16_2:=blk_frozen BK110.out 2;have hfz16_3:=blk_frozen BK110.out 3;have hfz16_4:=blk_frozen BK110.out 4;go_wp2;go_meet
            case rel=>exact ⟨_,(false),(by first|rfl|(simp;done)|(simp [*];done)),H',⟨by have:=HK1.out;have:=HJ4.out;have:=HJ10.out;first|omega|exact Nat.le_refl _⟩,⟨by (with_reducible repeat (first|refine blk_drewN ?_ _|refine blk_drew ?_|refine blk_alloc ?_ _));exact BK110.out⟩,⟨by repeat (first|(with_reducible first|exact HB.out|apply below_alloc|apply pw_below_drewN|apply below_drew1|refine below_set ?_ GE110.out)|exact HB.out)⟩⟩
          case rest=>
           clear HC13;(try clear c1);(try clear p1);(try clear q1);(try clear hx1);(try clear c2);(try clear c2b0);(try clear p2);(try clear c3);(try clear c3b0);(try clear c4);(try clear c4b0);(try clear c6);(try clear p6);(try clear c8);(try clear c8b0);(try clear c8b1);(try clear p10);(try clear q10);(try clear hx10);(try clear c12);(try clear c14);(try clear c14b0);(try clear c14b1);(try clear hcz10_0);(try clear hcz10_1);(try clear hcz10_2);(try clear hcz10_3);(try clear hcz10_4);(try clear hcz15_0);(try clear hcz15_1);(try clear hcz15_2);(try clear hcz15_3);(try clear hcz15_4);(try clear hcz16_0);(try clear hcz16_1);(try clear hcz16_2);(try clear hcz16_3);(try clear hcz16_4);(try clear hcz7_0);(try clear hcz7_1);(try clear hcz7_2);(try clear hcz7_3);(try clear hcz7_4);(try clear hcz9_0);(try clear hcz9_1);(try clear hcz9_2);(try clear hcz9_3);(try clear hcz9_4);(try clear hfz10_0);(try clear hfz10_1);(try clear hfz10_2);(try clear hfz10_3);(try clear hfz10_4);(try clear hfz15_0);(try clear hfz15_1);(try clear hfz15_2);(try clear hfz15_3);(try clear hfz15_4);(try clear hfz16_0);(try clear hfz16_1);(try clear hfz16_2);(try clear hfz16_3);(try clear hfz16_4);(try clear hfz7_0);(try clear hfz7_1);(try clear hfz7_2);(try clear hfz7_3);(try clear hfz7_4);(try clear hfz9_0);(try clear hfz9_1);(try clear hfz9_2);(try clear hfz9_3);(try clear hfz9_4);(try clear hx109_0);(try clear hx109_1);(try clear hx109_2);(try clear hx109_3);(try clear hx109_4);(try clear p1);(try clear p10);(try clear p109);(try clear p2);(try clear p6);(try clear q1);(try clear q10);(try clear q109);obtain ⟨kq,x29_12,rfl,HA,HJ12,BK110,HB⟩:=hcut;cases kq with
           | zero=>exact absurd HA.out (by simp [placketref16_depths.j3])
           | succ kj12=>
            have H:=HA.out;clear HA;simp only [placketref16_depths.j3] at H;by_cases c17:x29_12=true
            ·subst c17;(have H1:(if (wrap64 (x3_10 - 1)) < 0 then (some false) else (placketref16_depths.l0 kj12 l0 (wrap64 (x3_10 - 1)) l0 (l0.length:Int) (wrap64 (x8_1+1))))=some r:=by rw [if_pos rfl] at H;exact H);clear H;have H:=H1;clear H1;by_cases c18:(wrap64 (x3_10 - 1)) < 0
             ·rw [if_pos c18] at H;have c18b0:decide ((wrap64 (x3_10 - 1)) < 0)=true:=decide_eq_true c18;clear c18;obtain rfl:=Option.some.inj H;go_wp2;go_ret;exact ⟨by first|rfl|(simp [errW_none,errW_some] <;> rfl)|(simp [*,errW_none,errW_some] <;> rfl),by repeat (first|(with_reducible first|exact HB.out|apply below_alloc|apply pw_below_drewN|apply below_drew1|refine below_set ?_ GE110.out)|exact HB.out)⟩
             ·rw [if_neg c18] at H;have c18b0:decide ((wrap64 (x3_10 - 1)) < 0)=false:=decide_eq_false c18;clear c18;have H':=Aside0.mk H;clear H;go_wp2;go_roundg kj12
              case measure=>have:=HK1.out;have:=HJ4.out;have:=HJ10.out;have:=HJ12.out;omega
              case rel=>exact ⟨(wrap64 (x3_10 - 1)),(wrap64 (x8_1+1)),(by first|rfl|(simp;done)|(simp [*];done)),(by first|rfl|(simp;done)|(simp [*];done)),H',⟨by have:=HK1.out;have:=HJ4.out;have:=HJ10.out;have:=HJ12.out;omega⟩,⟨by repeat (first|(with_reducible first|exact HB.out|apply below_alloc|apply pw_below_drewN|apply below_drew1|refine below_set ?_ GE110.out)|exact HB.out)⟩⟩
            ·replace c17:=Bool.eq_false_iff.mpr c17;subst c17;(have H1:(if x3_10 < 0 then (some false) else (placketref16_depths.l0 kj12 l0 x3_10 l0 (l0.length:Int) (wrap64 (x8_1+1))))=some r:=by rw [if_neg (show ¬ (false=true) by decide)] at H;exact H);clear H;have H:=H1;clear H1;by_cases c19:x3_10 < 0
             ·rw [if_pos c19] at H;have c19b0:decide (x3_10 < 0)=true:=decide_eq_true c19;clear c19;obtain rfl:=Option.some.inj H;go_wp2;go_ret;exact ⟨by first|rfl|(simp [errW_none,errW_some] <;> rfl)|(simp [*,errW_none,errW_some] <;> rfl),by repeat (first|(with_reducible first|exact HB.out|apply below_alloc|apply pw_below_drewN|apply below_drew1|refine below_set ?_ GE110.out)|exact HB.out)⟩
             ·rw [if_neg c19] at H;have c19b0:decide (x3_10 < 0)=false:=decide_eq_false c19;clear c19;have H':=Aside0.mk H;clear H;go_wp2;go_roundg kj12
              case measure=>have:=HK1.out;have:=HJ4.out;have:=HJ10.out;have:=HJ12.out;omega
              case rel=>exact ⟨(x3_10),(wrap64 (x8_1+1)),(by first|rfl|(simp;done)|(simp [*];done)),(by first|rfl|(simp;done)|(simp [*];done)),H',⟨by have:=HK1.out;have:=HJ4.out;have:=HJ10.out;have:=HJ12.out;omega⟩,⟨by repeat (first|(with_reducible first|exact HB.out|apply below_alloc|apply pw_below_drewN|apply below_drew1|refine below_set ?_ GE110.out)|exact HB.out)⟩⟩
     ·rw [if_neg c4] at H;exact absurd H (by simp)
    ·rw [if_neg c3] at H;exact absurd H (by simp)
   ·rw [if_neg c2] at H;have c2b0:decide (x8_1 < (l0.length:Int))=false:=decide_eq_false c2;clear c2;by_cases c20:x3_1=0
    ·rw [if_pos c20] at H;have c20b0:(x3_1 == 0)=true:=beq_iff_eq.mpr c20;have c20b1:(x3_1 != 0)=false:=bne_eq_false_iff_eq.mpr c20;clear c20;obtain rfl:=Option.some.inj H;go_wp2;go_ret;exact ⟨by first|rfl|(simp [errW_none,errW_some] <;> rfl)|(simp [*,errW_none,errW_some] <;> rfl),bw HB.out⟩
    ·rw [if_neg c20] at H;have c20b0:(x3_1 == 0)=false:=beq_eq_false_iff_ne.mpr c20;have c20b1:(x3_1 != 0)=true:=bne_iff_ne.mpr c20;obtain rfl:=Option.some.inj H;go_wp2;go_ret;exact ⟨by first|rfl|(simp [errW_none,errW_some] <;> rfl)|(simp [*,errW_none,errW_some] <;> rfl),bw HB.out⟩
def placketref16_Balanced.f (k:Nat) (a0:ByteArray):Option (Bool):=(placketref13_All.f k a0).bind fun bt111=>(if bt111.2.2=0 then ((placketref13_Print.f k bt111.1).bind fun t116=>(if t116.toList=a0.toList then ((placketref16_depths.f k bt111.1).bind fun t117=>(some t117)) else (some false))) else (some false))
set_option maxHeartbeats 8000000 in
set_option maxRecDepth 100000 in
theorem placketref16_Balanced.calls (k:Nat) (a0:ByteArray) (r:Bool) (w:World) (h:placketref16_Balanced.f k a0=some r) :
  Calls Tryd.prog 32 #[.string a0] w fun e w'=>e = .returned (.bool r)∧Below w.heap.size w w':=by
 have HB:=Aside0.mk (Below.refl w.heap.size w);have H:((placketref13_All.f k a0).bind fun bt111=>(if bt111.2.2=0 then ((placketref13_Print.f k bt111.1).bind fun t116=>(if t116.toList=a0.toList then ((placketref16_depths.f k bt111.1).bind fun t117=>(some t117)) else (some false))) else (some false)))=some r:=h;clear h;replace H:=Option.bind_eq_some_iff.mp H;obtain ⟨⟨t111,t112,t113⟩,A20,H⟩:=H;replace H:(if t113=0 then ((placketref13_Print.f k t111).bind fun t116=>(if t116.toList=a0.toList then ((placketref16_depths.f k t111).bind fun t117=>(some t117)) else (some false))) else (some false))=some r:=H;have A2:=Aside0.mk A20;clear A20;by_cases c3:t113=0
 ·rw [if_pos c3] at H;have c3b0:(t113 == 0)=true:=beq_iff_eq.mpr c3;have c3b1:(t113 != 0)=false:=bne_eq_false_iff_eq.mpr c3;clear c3;replace H:=Option.bind_eq_some_iff.mp H;obtain ⟨t116,A40,H⟩:=H;replace H:(if t116.toList=a0.toList then ((placketref16_depths.f k t111).bind fun t117=>(some t117)) else (some false))=some r:=H;have A4:=Aside0.mk A40;clear A40;by_cases c5:t116.toList=a0.toList
  ·rw [if_pos c5] at H;have c5b0:(t116.toList == a0.toList)=true:=beq_iff_eq.mpr c5;have c5b1:(t116.toList != a0.toList)=false:=bne_eq_false_iff_eq.mpr c5;clear c5;replace H:=Option.bind_eq_some_iff.mp H;obtain ⟨t117,A60,H⟩:=H;replace H:(some t117)=some r:=H;have A6:=Aside0.mk A60;clear A60;obtain rfl:=Option.some.inj H;(go_enter Tryd.func32,Tryd.ntmps32);go_wp2_with (first|((with_reducible refine gate_callee (f:=20) rfl ?_);refine goesL_ (some 8) rfl rfl Tryd.func20 (by kernel_rfl) rfl #[.string a0] rfl (by (try simp only [List.map_toArray,List.map_cons,List.map_nil]);first|done|rfl|(simp only [List.length_drop,List.length_take];rfl)) ?_;(with_reducible refine (placketref13_All.calls k a0 t111 t112 t113 _ A2.out).mono ?_);rintro e w7 ⟨v114,rfl,ho0,hb⟩;refine ⟨_,rfl,?_⟩;have n0_:=Aside0.mk (Kd.R_lower ho0 (below_size (bw HB.out)));have n1_:=Aside0.mk (below_step (bw HB.out) hb);clear HB;have HO115:=n0_;have HB:=n1_;clear n0_ n1_;(try clear hb);(try clear hb2);(try clear hk);(try clear hi);(try clear ho0);obtain ⟨Ao8,co8,eo8⟩:=Kd.R_slice HO115.out;subst eo8)|(go_at_call 29;(with_reducible refine (placketref13_Print.calls k _ _ t111 t116 _ ?side1 ?side2 A4.out).mono ?_);(case side1=>repeat (first|exact (Kd.R_reads' HO115.out).2.2|(with_reducible refine Kd.C_alloc ?_ _)|(with_reducible refine Kd.C_drewN ?_ _)|(with_reducible refine Kd.C_drew ?_)));(case side2=>exact (Kd.R_reads' HO115.out).2.1);rintro e w9 ⟨rfl,hb⟩;have n0_:=Aside0.mk (Kd.R_below (br HO115.out) hb);have n1_:=Aside0.mk (below_step (bw HB.out) hb);clear HO115;clear HB;have HO115:=n0_;have HB:=n1_;clear n0_ n1_;(try clear hb);(try clear hb2);(try clear hk);(try clear hi))|(go_at_call 62;(with_reducible refine (placketref16_depths.calls k _ _ t111 t117 _ ?side1 ?side2 A6.out).mono ?_);(case side1=>repeat (first|exact (Kd.R_reads' HO115.out).2.2|(with_reducible refine Kd.C_alloc ?_ _)|(with_reducible refine Kd.C_drewN ?_ _)|(with_reducible refine Kd.C_drew ?_)));(case side2=>exact (Kd.R_reads' HO115.out).2.1);rintro e w10 ⟨rfl,hb⟩;have n0_:=Aside0.mk (Kd.R_below (br HO115.out) hb);have n1_:=Aside0.mk (below_step (bw HB.out) hb);clear HO115;clear HB;have HO115:=n0_;have HB:=n1_;clear n0_ n1_;(try clear hb);(try clear hb2);(try clear hk);(try clear hi)));go_ret;exact ⟨by first|rfl|(simp [errW_none,errW_some] <;> rfl)|(simp [*,errW_none,errW_some] <;> rfl),bw HB.out⟩
  ·rw [if_neg c5] at H;have c5b0:(t116.toList == a0.toList)=false:=beq_eq_false_iff_ne.mpr c5;have c5b1:(t116.toList != a0.toList)=true:=bne_iff_ne.mpr c5;obtain rfl:=Option.some.inj H;(go_enter Tryd.func32,Tryd.ntmps32);go_wp2_with (first|((with_reducible refine gate_callee (f:=20) rfl ?_);refine goesL_ (some 8) rfl rfl Tryd.func20 (by kernel_rfl) rfl #[.string a0] rfl (by (try simp only [List.map_toArray,List.map_cons,List.map_nil]);first|done|rfl|(simp only [List.length_drop,List.length_take];rfl)) ?_;(with_reducible refine (placketref13_All.calls k a0 t111 t112 t113 _ A2.out).mono ?_);rintro e w11 ⟨v114,rfl,ho0,hb⟩;refine ⟨_,rfl,?_⟩;have n0_:=Aside0.mk (Kd.R_lower ho0 (below_size (bw HB.out)));have n1_:=Aside0.mk (below_step (bw HB.out) hb);clear HB;have HO115:=n0_;have HB:=n1_;clear n0_ n1_;(try clear hb);(try clear hb2);(try clear hk);(try clear hi);(try clear ho0);obtain ⟨Ao12,co12,eo12⟩:=Kd.R_slice HO115.out;subst eo12)|(go_at_call 29;(with_reducible refine (placketref13_Print.calls k _ _ t111 t116 _ ?side1 ?side2 A4.out).mono ?_);(case side1=>repeat (first|exact (Kd.R_reads' HO115.out).2.2|(with_reducible refine Kd.C_alloc ?_ _)|(with_reducible refine Kd.C_drewN ?_ _)|(with_reducible refine Kd.C_drew ?_)));(case side2=>exact (Kd.R_reads' HO115.out).2.1);rintro e w13 ⟨rfl,hb⟩;have n0_:=Aside0.mk (Kd.R_below (br HO115.out) hb);have n1_:=Aside0.mk (below_step (bw HB.out) hb);clear HO115;clear HB;have HO115:=n0_;have HB:=n1_;clear n0_ n1_;(try clear hb);(try clear hb2);(try clear hk);(try clear hi)));go_ret;exact ⟨by first|rfl|(simp [errW_none,errW_some] <;> rfl)|(simp [*,errW_none,errW_some] <;> rfl),bw HB.out⟩
 ·rw [if_neg c3] at H;have c3b0:(t113 == 0)=false:=beq_eq_false_iff_ne.mpr c3;have c3b1:(t113 != 0)=true:=bne_iff_ne.mpr c3;obtain rfl:=Option.some.inj H;(go_enter Tryd.func32,Tryd.ntmps32);go_wp2_with (first|((with_reducible refine gate_callee (f:=20) rfl ?_);refine goesL_ (some 8) rfl rfl Tryd.func20 (by kernel_rfl) rfl #[.string a0] rfl (by (try simp only [List.map_toArray,List.map_cons,List.map_nil]);first|done|rfl|(simp only [List.length_drop,List.length_take];rfl)) ?_;(with_reducible refine (placketref13_All.calls k a0 t111 t112 t113 _ A2.out).mono ?_);rintro e w14 ⟨v114,rfl,ho0,hb⟩;refine ⟨_,rfl,?_⟩;have n0_:=Aside0.mk (Kd.R_lower ho0 (below_size (bw HB.out)));have n1_:=Aside0.mk (below_step (bw HB.out) hb);clear HB;have HO115:=n0_;have HB:=n1_;clear n0_ n1_;(try clear hb);(try clear hb2);(try clear hk);(try clear hi);(try clear ho0)));go_ret;exact ⟨by first|rfl|(simp [errW_none,errW_some] <;> rfl)|(simp [*,errW_none,errW_some] <;> rfl),bw HB.out⟩
end Go.Proofs.YtkbjblhompkdkaaDoor.PC
namespace Go.Proofs.YtkbjblhompkdkaaDoor.Pure
set_option linter.unusedSimpArgs false
open Go.RowKit Go.Proofs.YtkbjblhompkdkaaDoor.PA Go.Proofs.YtkbjblhompkdkaaDoorW.PrintWords Go.Proofs.YtkbjblhompkdkaaDoorW.PrintLast
theorem tdiv_neg10 (d:Int) (h0:0≤d) (h1:d≤9):Int.tdiv (-9223372036854775808+d) 10 = -((9223372036854775808 - d) / 10):=by
 rw [show -9223372036854775808+d = -(9223372036854775808 - d) by omega,Int.neg_tdiv,Int.tdiv_eq_ediv_of_nonneg (by omega)]
section
variable (s:ByteArray) (hs:s.size≤140737488351232)
include hs
theorem word_loop (d:Nat):∀ i:Nat,i≤s.size→s.size - i=d→Ev (fun k=>placketref01_word.l0 k s (i:Int)) (decide (allDig ((bytesOf s).drop i))):=by
 induction d with
 | zero=>
  intro i hi hd;rw [bytes_end s (by omega)];refine Ev.step (f:=fun _=>some true) (fun k=>?_) (by simpa [allDig] using Ev.now true);simp only [placketref01_word.l0];rw [if_neg (by omega)]
 | succ d ih=>
  intro i hi hd;(have hlt:i < s.size:=by omega);rw [bytes_drop s hlt];by_cases hc:48≤bt s (i:Int)∧bt s (i:Int)≤57
  ·refine Ev.step (f:=fun k=>placketref01_word.l0 k s ((i+1:Nat):Int)) (fun k=>?_) ?_
   ·simp only [placketref01_word.l0];rw [if_pos (by omega),if_pos (by omega),if_neg (by omega),if_neg (by omega),i_next hlt hs]
   ·have:=ih (i+1) (by omega) (by omega);rw [show decide (allDig (bt s (i:Int) :: (bytesOf s).drop (i+1)))=decide (allDig ((bytesOf s).drop (i+1))) from by rw [decide_eq_decide,allDig_cons];exact ⟨fun h=>h.2,fun h=>⟨hc,h⟩⟩];exact this
  ·rw [decide_eq_false (fun h=>hc (allDig_cons.1 h).1)];refine Ev.step (f:=fun _=>some false) (fun k=>?_) (Ev.now _);simp only [placketref01_word.l0];rw [if_pos (by omega),if_pos (by omega)];by_cases h1:bt s (i:Int) < 48
   ·rw [if_pos h1]
   ·rw [if_neg h1,if_pos (by omega)]
def wordS (l:List Int):Bool:=if l.head? = some 45 then decide (Digs (1 < l.length) l.tail) else decide (Digs (1 < l.length) l)
theorem word_from (i:Nat) (hi:i≤s.size):Ev (fun k=>placketref01_word.j1 k s (i:Int)) (decide (Digs (1 < s.size) ((bytesOf s).drop i))):=by
 by_cases he:i=s.size
 ·rw [bytes_end s (by omega),decide_eq_false (by simp [Digs])];refine Ev.step (f:=fun k=>placketref01_word.j2 k s (i:Int) true) (fun k=>?_) ?_
  ·simp only [placketref01_word.j1];rw [if_pos (by omega)]
  ·refine Ev.step (f:=fun _=>some false) (fun k=>?_) (Ev.now _);simp only [placketref01_word.j2];rw [if_pos trivial]
 ·(have hlt:i < s.size:=by omega);have hd:=bytes_drop s hlt;by_cases hz:bt s (i:Int)=48∧1 < s.size
  ·rw [decide_eq_false (by rw [hd];simp [Digs,hz.1,hz.2])];refine Ev.step (f:=fun k=>placketref01_word.j2 k s (i:Int) true) (fun k=>?_) ?_
   ·simp only [placketref01_word.j1];rw [if_neg (by omega),if_pos (by omega),if_pos (by omega),if_pos hz.1,decide_eq_true (by omega)]
   ·refine Ev.step (f:=fun _=>some false) (fun k=>?_) (Ev.now _);simp only [placketref01_word.j2];rw [if_pos trivial]
  ·refine Ev.step (f:=fun k=>placketref01_word.j2 k s (i:Int) false) (fun k=>?_) ?_
   ·simp only [placketref01_word.j1];rw [if_neg (by omega),if_pos (by omega),if_pos (by omega)];by_cases h48:bt s (i:Int)=48
    ·rw [if_pos h48,decide_eq_false (by omega)]
    ·rw [if_neg h48]
   ·refine Ev.step (f:=fun k=>placketref01_word.l0 k s (i:Int)) (fun k=>?_) ?_
    ·simp only [placketref01_word.j2];rw [if_neg (by simp)]
    ·have:=word_loop s hs (s.size - i) i hi rfl;rw [show decide (Digs (1 < s.size) ((bytesOf s).drop i))=decide (allDig ((bytesOf s).drop i)) from by
      rw [decide_eq_decide];refine ⟨fun h=>h.1,fun h=>⟨h,by rw [hd];simp,?_⟩⟩;rw [hd];intro hh;simp at hh;exact hz hh]
     exact this
theorem word_ev:Ev (fun k=>placketref01_word.f k s) (wordS (bytesOf s)):=by
 unfold placketref01_word.f wordS;rw [bytesOf_length];rcases Nat.eq_zero_or_pos s.size with h0|h0
 ·have hn:bytesOf s = []:=List.eq_nil_of_length_eq_zero (by rw [bytesOf_length];exact h0);refine Ev.congr (f:=fun k=>placketref01_word.j0 k s 0 false) (fun k=>by rw [if_neg (by omega)]) ?_;refine Ev.step (f:=fun k=>placketref01_word.j1 k s ((0:Nat):Int)) (fun k=>?_) ?_
  ·simp only [placketref01_word.j0];rw [if_neg (by simp)];rfl
  ·have:=word_from s hs 0 (by omega);rw [List.drop_zero] at this;rw [if_neg (by rw [hn];simp)];exact this
 ·have hd:=bytes_drop s h0;rw [List.drop_zero] at hd;refine Ev.congr (f:=fun k=>placketref01_word.j0 k s 0 ((bt s ((0:Nat):Int)) == 45)) (fun k=>by rw [if_pos (by omega),if_pos (by omega)];rfl) ?_;by_cases hm:bt s ((0:Nat):Int)=45
  ·rw [show (bt s ((0:Nat):Int) == 45)=true from beq_iff_eq.2 hm,if_pos (by rw [hd,hm];rfl)];refine Ev.step (f:=fun k=>placketref01_word.j1 k s ((1:Nat):Int)) (fun k=>?_) ?_
   ·simp only [placketref01_word.j0];rw [if_pos trivial];rfl
   ·have:=word_from s hs 1 (by omega);rw [show (bytesOf s).tail=(bytesOf s).drop 1 by simp];exact this
  ·rw [show (bt s ((0:Nat):Int) == 45)=false from beq_eq_false_iff_ne.2 hm,if_neg (by rw [hd];simpa using hm)];refine Ev.step (f:=fun k=>placketref01_word.j1 k s ((0:Nat):Int)) (fun k=>?_) ?_
   ·simp only [placketref01_word.j0];rw [if_neg (by simp)];rfl
   ·have:=word_from s hs 0 (by omega);rw [List.drop_zero] at this;exact this
theorem refParse_loop (h0:0 < s.size) (d:Nat):∀ i v:Nat,i≤s.size→s.size - i=d→v≤9223372036854775808→(0 < i ∨ (bytesOf s).head? ≠ some 45)→allDig ((bytesOf s).drop i) →
  Ev (fun k=>placketref01_Parse.l0 k s (-(v:Int)) (s.size:Int) (i:Int)) (finS ((bt s ((0:Nat):Int)) == 45) (foldV v ((bytesOf s).drop i))):=by
 induction d with
 | zero=>
  intro i v hi hd hv hm ha;rw [bytes_end s (by omega)];refine Ev.step (f:=fun _=>some (finS ((bt s ((0:Nat):Int)) == 45) v)) (fun k=>?_) (Ev.now _);simp only [placketref01_Parse.l0];rw [if_neg (by omega),if_pos (by omega)];unfold finS;by_cases h45:bt s ((0:Nat):Int)=45
  ·rw [show bt s 0=45 from h45,if_pos rfl,h45,if_pos (by simp),if_neg (by omega)]
  ·rw [if_neg (show ¬ bt s 0=45 from h45),if_neg (show ¬ ((bt s ((0:Nat):Int) == 45)=true) by simpa using h45)];by_cases hl:v=9223372036854775808
   ·rw [if_pos (by omega),if_pos (by omega)]
   ·rw [if_neg (by omega),if_neg (by omega),w64 (by omega) (by omega)];congr 2;omega
 | succ d ih=>
  intro i v hi hd hv hm ha;(have hlt:i < s.size:=by omega);rw [bytes_drop s hlt] at ha ⊢;obtain ⟨hc,ha'⟩:=allDig_cons.1 ha;(have hne:¬ bt s (i:Int)=45:=by omega);(have hmod:(bt s (i:Int) - 48) % 256=bt s (i:Int) - 48:=by omega);by_cases hov:10 * v+(bt s (i:Int) - 48).toNat > 9223372036854775808
  ·have:=foldV_ge ((bytesOf s).drop (i+1)) (10 * v+(bt s (i:Int) - 48).toNat);rw [show foldV v (bt s (i:Int) :: (bytesOf s).drop (i+1))=foldV (10 * v+(bt s (i:Int) - 48).toNat) ((bytesOf s).drop (i+1)) from rfl,finS_over _ (by omega)];refine Ev.step (f:=fun _=>some (0,4)) (fun k=>?_) (Ev.now _);simp only [placketref01_Parse.l0];rw [if_pos (by omega),if_pos (by omega),if_pos (by omega),if_neg hne,hmod,if_pos];rw [tdiv_neg10 _ (by omega) (by omega)];omega
  ·have ih:=ih (i+1) (10 * v+(bt s (i:Int) - 48).toNat) (by omega) (by omega) (by omega) (.inl (by omega)) ha';refine Ev.step (f:=fun k=>placketref01_Parse.l0 k s (-((10 * v+(bt s (i:Int) - 48).toNat:Nat):Int)) (s.size:Int) ((i+1:Nat):Int)) (fun k=>?_) ih;simp only [placketref01_Parse.l0];rw [if_pos (by omega),if_pos (by omega),if_pos (by omega),if_neg hne,hmod,if_neg,i_next hlt hs]
   ·congr 1;unfold wrap64;omega
   ·rw [tdiv_neg10 _ (by omega) (by omega)];omega
theorem refParse_ev:Ev (fun k=>placketref01_Parse.f k s) (parseS (bytesOf s)):=by
 unfold placketref01_Parse.f;refine Ev.bind (word_ev s hs) ?_;rcases Nat.eq_zero_or_pos s.size with h0|h0
 ·have hn:bytesOf s = []:=List.eq_nil_of_length_eq_zero (by rw [bytesOf_length];exact h0);rw [hn];refine Ev.congr (f:=fun _=>some (0,2)) (fun k=>?_) ?_
  ·rw [if_neg (by simp [wordS,Digs])]
  ·(have:parseS []=(0,2):=by simp [parseS,Digs]);rw [this];exact Ev.now _
 have hd:=bytes_drop s h0;rw [List.drop_zero] at hd;(have hh:(bytesOf s).head? = some (bt s ((0:Nat):Int)):=by rw [hd];rfl);unfold parseS wordS;rw [bytesOf_length,hh];by_cases hm:bt s ((0:Nat):Int)=45
 ·rw [if_pos (by rw [hm]),if_pos (by rw [hm])];by_cases hD:Digs (1 < s.size) (bytesOf s).tail
  ·rw [if_pos hD];refine Ev.congr (f:=fun k=>placketref01_Parse.l0 k s 0 (s.size:Int) 0) (fun k=>by rw [if_pos (by simpa using hD)]) ?_;refine Ev.step (f:=fun k=>placketref01_Parse.l0 k s (-((0:Nat):Int)) (s.size:Int) ((1:Nat):Int)) (fun k=>?_) ?_
   ·simp only [placketref01_Parse.l0];rw [if_pos (by omega),if_pos (by omega),if_pos (by omega),if_pos (show bt s 0=45 from hm),show wrap64 (0+1)=1 by unfold wrap64;omega];rfl
   ·(have et:(bytesOf s).tail=(bytesOf s).drop 1:=by simp);rw [et] at hD ⊢;have:=refParse_loop s hs h0 (s.size - 1) 1 0 (by omega) rfl (by omega) (.inl (by omega)) hD.1;rw [hm] at this;exact this
  ·rw [if_neg hD];exact Ev.congr (f:=fun _=>some (0,2)) (fun k=>by rw [if_neg (by simpa using hD)]) (Ev.now _)
 ·rw [if_neg (by simpa using hm),if_neg (by simpa using hm)];by_cases hD:Digs (1 < s.size) (bytesOf s)
  ·rw [if_pos hD];refine Ev.congr (f:=fun k=>placketref01_Parse.l0 k s (-((0:Nat):Int)) (s.size:Int) ((0:Nat):Int)) (fun k=>by rw [if_pos (by simpa using hD)];rfl) ?_;have:=refParse_loop s hs h0 s.size 0 0 (by omega) rfl (by omega) (.inr (by rw [hh];simpa using hm)) (by rw [List.drop_zero];exact hD.1);rw [List.drop_zero,show (bt s ((0:Nat):Int) == 45)=false from beq_eq_false_iff_ne.2 hm] at this;exact this
  ·rw [if_neg hD];exact Ev.congr (f:=fun _=>some (0,2)) (fun k=>by rw [if_neg (by simpa using hD)]) (Ev.now _)
end
end Go.Proofs.YtkbjblhompkdkaaDoor.Pure
namespace Go.Proofs.YtkbjblhompkdkaaDoor.Pure
set_option linter.unusedSimpArgs false
open Go.RowKit Go.Proofs.YtkbjblhompkdkaaDoor.PA Go.Proofs.YtkbjblhompkdkaaDoorW.PrintWords Go.Proofs.YtkbjblhompkdkaaDoorW.PrintLast
section
variable (s:ByteArray)
theorem refvalue_some (k:Nat) (g:Bool) (c:Int) (h0:0≤c) (h1:c≤255):placketref02_value.f (k+2) c g=some ((hexV g c).getD 16):=by
 unfold placketref02_value.f;simp only [placketref02_value.j0,placketref02_value.j1,decide_eq_true_eq];by_cases a:48≤c∧c≤57
 ·rw [hexV_dig a,if_pos a.1,if_pos a.2,show (c - 48) % 256=c - 48 by omega];rfl
 ·by_cases b:97≤c∧c≤102
  ·rw [hexV_low b,if_pos (by omega),if_neg (by omega),if_pos b.1,if_pos b.2,show (c - 97+10) % 256=c - 87 by omega];rfl
  ·have hmain:(if g=true then (if c ≥ 65 then (if c≤70 then some ((c - 65+10) % 256) else some 16) else some 16) else some 16)=some ((hexV g c).getD 16):=by
    cases g with
    | false=>rw [hexV_not a b];rfl
    | true=>
     by_cases d:65≤c∧c≤70
     ·rw [hexV_great d,if_pos rfl,if_pos d.1,if_pos d.2,show (c - 65+10) % 256=c - 55 by omega];rfl
     ·rw [hexV_nott a b d,if_pos rfl];(repeat' split);all_goals first|rfl|(exfalso;omega)
   rw [← hmain];by_cases c1:c ≥ 48
   ·rw [if_pos c1,if_neg (by omega)];by_cases c2:c ≥ 97
    ·rw [if_pos c2,if_neg (by omega)]
    ·rw [if_neg c2,if_neg (by simp)]
   ·rw [if_neg c1,if_neg (by simp),if_neg (by omega),if_neg (by simp)]
theorem refescape_some (k:Nat) (c:Int):placketref02_escape.f (k+1) c=some (byLetterS c):=by
 unfold placketref02_escape.f byLetterS;simp only [placketref02_escape.j0];by_cases a:c=47
 ·subst a;simp
 by_cases b:c=34
 ·subst b;simp
 by_cases d:c=92
 ·subst d;simp
 by_cases e:c=110
 ·subst e;simp
 by_cases f:c=116
 ·subst f;simp
 by_cases g:c=114
 ·subst g;simp
 simp [a,b,d,e,f,g]
variable (hs:s.size≤140737488351232)
include hs
theorem refpair (i:Nat) (acc:List Int) (hi:i < s.size) (hacc:acc.length < 140737488355328) (R:ByteArray × Int × Int)
  (hR:∀ x,pairL s.size ((bytesOf s).drop (i+1)) (i+1) = .inl x→Ev (fun k=>placketref02_Unquote.l0 k s (acc++[x]) ((i+3:Nat):Int)) R)
  (hE:∀ p e,pairL s.size ((bytesOf s).drop (i+1)) (i+1) = .inr (p,e)→R=(⟨#[]⟩,(p:Int),e)) :
  Ev (fun k=>placketref02_Unquote.l1 k s acc (i:Int) 0 1) R:=by
 have w1:wrap64 ((i:Int)+1)=((i+1:Nat):Int):=i_next hi hs;(have w2:wrap64 ((i:Int)+2)=((i+2:Nat):Int):=by rw [w64 (by omega) (by omega)];omega);(have w3:wrap64 ((i:Int)+3)=((i+3:Nat):Int):=by rw [w64 (by omega) (by omega)];omega);(have u1:wrap64 ((1:Int)+1)=2:=by rw [w64 (by omega) (by omega)];omega);(have u2:wrap64 ((2:Int)+1)=3:=by rw [w64 (by omega) (by omega)];omega);refine Ev.succ (Ev.succ (Ev.succ ?_));simp only [placketref02_Unquote.l1,show (1:Int) < 3 by omega,if_true,w1];by_cases h1:i+1 < s.size
 ·rw [bytes_drop s h1] at hR hE;have hb1:=bt_range s ((i+1:Nat):Int);simp only [show ¬ ((i+1:Nat):Int) ≥ (s.size:Int) by omega,if_false,show (0:Int)≤((i+1:Nat):Int) by omega,show ((i+1:Nat):Int) < (s.size:Int) by omega,if_true,refvalue_some _ _ _ hb1.1 hb1.2,Option.bind_some,u1];cases hx:hexV true (bt s ((i+1:Nat):Int)) with
  | none=>
   simp only [Option.getD_none,show (16:Int) > 15 by omega,if_true];refine Ev.const ?_;rw [hE (i+1) 2];rcases hl:(bytesOf s).drop (i+1+1) with _|⟨b,r⟩ <;> simp only [pairL,hx]
  | some x=>
   have hxr:=hexV_range hx;simp only [Option.getD_some,show ¬ x > 15 by omega,if_false,show ((16 * 0+x) % 256:Int)=x by omega,show (2:Int) < 3 by omega,w2,if_true];by_cases h2:i+2 < s.size
   ·have hd2:=bytes_drop s h2;rw [show i+2=i+1+1 from rfl] at hd2;rw [hd2] at hR hE;have hb2:=bt_range s ((i+2:Nat):Int);refine Ev.succ ?_;simp only [show ¬ ((i+2:Nat):Int) ≥ (s.size:Int) by omega,if_false,show (0:Int)≤((i+2:Nat):Int) by omega,show ((i+2:Nat):Int) < (s.size:Int) by omega,if_true,refvalue_some _ _ _ hb2.1 hb2.2,Option.bind_some,u2];cases hy:hexV true (bt s ((i+2:Nat):Int)) with
    | none=>
     simp only [Option.getD_none,show (16:Int) > 15 by omega,if_true];refine Ev.const ?_;rw [hE (i+1+1) 2];simp only [pairL,hx,show ((i+1+1:Nat):Int)=((i+2:Nat):Int) from rfl,hy]
    | some y=>
     have hyr:=hexV_range hy;simp only [Option.getD_some,show ¬ y > 15 by omega,if_false,show ((16 * x+y) % 256:Int)=16 * x+y by omega,placketref02_Unquote.l1,show ¬ ((3:Int) < 3) by omega,hacc,if_true,w3];have:=hR (16 * x+y) (by simp only [pairL,hx,show ((i+1+1:Nat):Int)=((i+2:Nat):Int) from rfl,hy]);exact Ev.add this 1
   ·rw [bytes_end s (show s.size≤i+1+1 by omega)] at hE;simp only [show ((i+2:Nat):Int) ≥ (s.size:Int) by omega,if_true];refine Ev.const ?_;rw [hE s.size 10 (by simp only [pairL,hx])]
 ·rw [bytes_end s (show s.size≤i+1 by omega)] at hE;simp only [show ((i+1:Nat):Int) ≥ (s.size:Int) by omega,if_true];refine Ev.const ?_;rw [hE s.size 10 rfl]
theorem refunquote_loop (d:Nat):∀ (i:Nat) (acc:List Int),i≤s.size→s.size - i=d→acc.length≤i →
  Ev (fun k=>placketref02_Unquote.l0 k s acc (i:Int)) (resU (unqL s.size ((bytesOf s).drop i) i acc)):=by
 induction d using Nat.strongRecOn with
 | _ d ih=>
 intro i acc hi hd ha;by_cases hlt:i < s.size
 ·have hb:=bt_range s (i:Int);have hn:=i_next hlt hs;rw [bytes_drop s hlt];refine Ev.succ ?_;simp only [placketref02_Unquote.l0,show (i:Int) < (s.size:Int) by omega,show (0:Int)≤(i:Int) by omega,if_true,hn,show acc.length < 140737488355328 by omega];by_cases h34:bt s (i:Int)=34
  ·rw [h34,unqL_mark];simp only [if_true];exact Ev.now _
  simp only [h34,if_false];by_cases h32:bt s (i:Int) < 32
  ·rw [unqL_low _ _ _ _ h32];simp only [h32,if_true];exact Ev.now _
  simp only [h32,if_false];by_cases h92:bt s (i:Int)=92
  ·rw [h92];simp only [if_true];by_cases h1:i+1 < s.size
   ·have hb1:=bt_range s ((i+1:Nat):Int);rw [bytes_drop s h1];simp only [show ¬ ((i+1:Nat):Int)=(s.size:Int) by omega,show (0:Int)≤((i+1:Nat):Int) by omega,show ((i+1:Nat):Int) < (s.size:Int) by omega,if_true,if_false,i_next h1 hs];by_cases h120:bt s ((i+1:Nat):Int)=120
    ·rw [h120,unqL_hex];simp only [if_true];refine refpair s hs (i+1) acc h1 (by omega) _ ?_ ?_
     ·intro x hp;have hp':pairL s.size ((bytesOf s).drop (i+1+1)) (i+2) = .inl x:=hp;simp only [hp'];have hsz:i+4≤s.size:=by
       rcases Nat.lt_or_ge s.size (i+4) with h|h
       ·exfalso;by_cases h2:i+2 < s.size
        ·rw [bytes_drop s h2,bytes_end s (show s.size≤i+1+1+1 by omega)] at hp;simp only [pairL] at hp;split at hp <;> cases hp
        ·rw [bytes_end s (by omega)] at hp;cases hp
       ·exact h
      have:=ih (s.size - (i+4)) (by omega) (i+4) (acc++[x]) hsz rfl (by simp;omega);rw [List.drop_drop];exact this
     ·intro p e hp;have hp':pairL s.size ((bytesOf s).drop (i+1+1)) (i+2) = .inr (p,e):=hp;simp only [hp'];rfl
    ·rw [unqL_let _ _ _ _ h120];refine Ev.succ ?_;simp only [h120,if_false,refescape_some,Option.bind_some];by_cases hl:(byLetterS (bt s ((i+1:Nat):Int))).2=true
     ·simp only [hl,if_true];exact Ev.add (ih (s.size - (i+2)) (by omega) (i+2) (acc++[(byLetterS (bt s ((i+1:Nat):Int))).1]) (by omega) rfl (by simp;omega)) 1
     ·simp only [hl,if_false];exact Ev.now _
   ·rw [bytes_end s (show s.size≤i+1 by omega),unqL_end];simp only [show ((i+1:Nat):Int)=(s.size:Int) by omega,if_true];exact Ev.now _
  ·rw [unqL_plain _ _ _ _ h34 h32 h92];simp only [h92,if_false];exact ih (s.size - (i+1)) (by omega) (i+1) (acc++[bt s (i:Int)]) (by omega) rfl (by simp;omega)
 ·rw [bytes_end s (by omega),unqL_nil];refine Ev.succ ?_;simp only [placketref02_Unquote.l0,show ¬ (i:Int) < (s.size:Int) by omega,if_false];exact Ev.now _
theorem refunquote_ev:Ev (fun k=>placketref02_Unquote.f k s) (resU (unquoteL (bytesOf s))):=by
 unfold placketref02_Unquote.f;by_cases h0:s.size=0
 ·rw [bytes_nil h0];simp only [show (s.size:Int)=0 by omega,if_true];exact Ev.now _
 ·have hd:=bytes_drop s (show 0 < s.size by omega);rw [List.drop_zero] at hd;simp only [show ¬ (s.size:Int)=0 by omega,if_false,show (0:Int) < (s.size:Int) by omega,if_true];unfold unquoteL;rw [hd];simp only [];by_cases h34:bt s ((0:Nat):Int)=34
  ·simp only [h34,show bt s 0=34 from h34,if_true];have:=refunquote_loop s hs (s.size - 1) 1 [] (by omega) rfl (by simp);(have el:((bytesOf s).drop (0+1)).length+1=s.size:=by rw [List.length_drop,bytesOf_length];omega);rw [el];exact this
  ·simp only [h34,show ¬ bt s 0=34 from h34,if_false];exact Ev.now _
end
end Go.Proofs.YtkbjblhompkdkaaDoor.Pure
namespace Go.Proofs.YtkbjblhompkdkaaDoor.Pure
set_option linter.unusedSimpArgs false
open Go.RowKit Go.Proofs.YtkbjblhompkdkaaDoor.PA Go.Proofs.YtkbjblhompkdkaaDoorW.PrintWords Go.Proofs.YtkbjblhompkdkaaDoorW.PrintLast
section
variable (s:ByteArray) (hs:s.size≤140737488351232)
include hs
set_option maxHeartbeats 4000000 in
theorem refname_loop (h0:0 < s.size) (d:Nat):∀ i:Nat,i≤s.size→s.size - i=d→Ev (fun k=>placketref02_Name.l0 k s (s.size:Int) (i:Int)) (nameR (i == 0) ((bytesOf s).drop i)):=by
 induction d with
 | zero=>
  intro i hi hd;rw [bytes_end s (by omega)];refine Ev.succ ?_;simp only [placketref02_Name.l0,show ¬ ((i:Int) < (s.size:Int)) by omega,if_false,nameR,show (s.size:Int) > 0 by omega,decide_true];exact Ev.now _
 | succ d ih=>
  intro i hi hd;(have hlt:i < s.size:=by omega);have hn:=i_next hlt hs;have ih:=ih (i+1) (by omega) (by omega);rw [show (i+1 == 0)=false from rfl] at ih;rw [bytes_drop s hlt];refine Ev.succ ?_;simp only [placketref02_Name.l0,show (i:Int) < (s.size:Int) by omega,show (0:Int)≤(i:Int) by omega,if_true,hn];generalize bt s (i:Int)=c;by_cases hl:isLet c
  ·(have e:nameR (i == 0) (c :: (bytesOf s).drop (i+1))=nameR false ((bytesOf s).drop (i+1)):=by simp [nameR,hl]);rw [e];refine Ev.congr (fun k=>?_) ih;unfold isLet at hl;(repeat' split);all_goals first|rfl|(exfalso;omega)
  ·by_cases h0i:i=0
   ·subst h0i;(have e:nameR (0 == 0) (c :: (bytesOf s).drop (0+1))=false:=by simp [nameR,hl]);rw [e];refine Ev.congr (f:=fun _=>some false) (fun k=>?_) (Ev.now _);unfold isLet at hl;(repeat' split);all_goals first|rfl|(exfalso;omega)
   ·have hf:(i == 0)=false:=beq_eq_false_iff_ne.2 h0i;by_cases hd:isDig c
    ·(have e:nameR (i == 0) (c :: (bytesOf s).drop (i+1))=nameR false ((bytesOf s).drop (i+1)):=by simp [nameR,hf,hd]);rw [e];refine Ev.congr (fun k=>?_) ih;unfold isDig at hd;(repeat' split);all_goals first|rfl|(exfalso;omega)
    ·(have e:nameR (i == 0) (c :: (bytesOf s).drop (i+1))=false:=by simp [nameR,hl,hd]);rw [e];refine Ev.congr (f:=fun _=>some false) (fun k=>?_) (Ev.now _);unfold isDig at hd;unfold isLet at hl;(repeat' split);all_goals first|rfl|(exfalso;omega)
theorem refname_ev:Ev (fun k=>placketref02_Name.f k s) (nameS (bytesOf s)):=by
 unfold placketref02_Name.f nameS;by_cases h0:s.size=0
 ·rw [bytes_nil h0];refine Ev.succ ?_;simp only [placketref02_Name.l0,show ¬ (0:Int) < (s.size:Int) by omega,if_false,show ¬ (s.size:Int) > 0 by omega,decide_false];exact Ev.now _
 ·have hd:=bytes_drop s (show 0 < s.size by omega);rw [List.drop_zero] at hd;have:=refname_loop s hs (by omega) s.size 0 (by omega) (by omega);rw [List.drop_zero] at this;rw [show (bytesOf s).isEmpty=false by rw [hd];rfl];exact this
end
end Go.Proofs.YtkbjblhompkdkaaDoor.Pure
namespace Go.Proofs.YtkbjblhompkdkaaDoor
open Go.RowKit Go.Proofs.YtkbjblhompkdkaaDoor.PA Go.Proofs.YtkbjblhompkdkaaDoorW.PrintWords Go.Proofs.YtkbjblhompkdkaaDoorW.PrintLast Go.Proofs.YtkbjblhompkdkaaDoor.Pure
set_option linter.unusedVariables false
set_option linter.unusedSimpArgs false
def tokR (r:Pure.Tok ⊕ (Nat × Int)):Int × Int × Int × Int × ByteArray × Int × Int:=
 match r with
 | .inl t=>(t.kind,(t.at_:Int),(t.end_:Int),t.n,strOfNums t.text,0,0)
 | .inr (p,c)=>(0,0,0,0,⟨#[]⟩,(p:Int),c)
theorem refblank_some (c:Int):placketref13_Blank.f c=some (Pure.blank c):=by
 unfold placketref13_Blank.f Pure.blank;by_cases h1:c=32
 ·simp [h1]
 by_cases h2:c=9
 ·simp [h2]
 by_cases h3:c=10
 ·simp [h3]
 by_cases h4:c=13
 ·simp [h4]
 simp [h1,h2,h3,h4]
theorem refdigit13_some (c:Int):placketref13_digit.f c=some (digB c):=by
 by_cases h1:c ≥ 48 <;> by_cases h2:c≤57 <;> simp [placketref13_digit.f,digB,isDig,h1,h2] <;> omega
theorem take_all (P:Int→Bool) (l:List Int):∀ n,n≤l.length→(l.take n).all P=decide (n≤lead P l):=by
 induction l with
 | nil=>intro n hn;simp at hn;subst hn;simp
 | cons c r ih=>
  intro n hn;match n with
  | 0=>simp
  | n+1=>
   simp only [List.length_cons] at hn;rw [List.take_succ_cons,List.all_cons,ih n (by omega)];by_cases hc:P c=true
   ·(have e:lead P (c :: r)=lead P r+1:=by simp [lead,hc]);simp [e,hc]
   ·(have e:lead P (c :: r)=0:=by simp [lead,hc]);simp [e,hc]
theorem nameR_all (l:List Int):nameR false l=l.all inName:=by
 induction l with
 | nil=>rfl
 | cons c r ih=>
  simp only [nameR,List.all_cons,ih,inName];congr 1;simp
theorem nameS_cons (c:Int) (r:List Int):nameS (c :: r)=(decide (isLet c) && r.all inName):=by
 simp [nameS,nameR,nameR_all]
section
variable (s:ByteArray) (hs:s.size≤140737488351232)
include hs
theorem refnumber_tail {p q L:Nat} (hq:p+1+L=q) (hqs:q≤s.size) :
  Ev (fun k=>if 0≤(p:Int) then (if (p:Int)≤(q:Int) then (if (q:Int)≤(s.size:Int) then ((placketref01_Parse.f k (s.extract (p:Int).toNat (q:Int).toNat)).bind fun bt155=>(if bt155.2=0 then (some (3,(p:Int),(q:Int),bt155.1,(⟨#[]⟩:ByteArray),0,0)) else (some (0,0,0,0,(⟨#[]⟩:ByteArray),(p:Int),bt155.2)))) else (none)) else (none)) else (none))
   (tokR (numQ p L (parseS (bt s (p:Int) :: ((bytesOf s).drop (p+1)).take L)))):=by
 refine Ev.congr (f:=fun k=>(placketref01_Parse.f k (s.extract p q)).bind fun bt155=>(if bt155.2=0 then (some (3,(p:Int),(q:Int),bt155.1,(⟨#[]⟩:ByteArray),0,0)) else (some (0,0,0,0,(⟨#[]⟩:ByteArray),(p:Int),bt155.2)))) (fun k=>?_) ?_
 ·rw [if_pos (by omega),if_pos (by omega),if_pos (by omega),Int.toNat_natCast,Int.toNat_natCast]
 refine Ev.bind (refParse_ev (s.extract p q) (by simp;omega)) ?_;rw [← hq,bytes_word s p L (by omega)];generalize parseS (bt s (p:Int) :: ((bytesOf s).drop (p+1)).take L)=v;unfold numQ;by_cases h0:v.2=0
 ·refine Ev.congr (f:=fun _=>some (tokR (.inl ⟨3,p,p+1+L,v.1,[]⟩))) (fun k=>?_) (by rw [if_pos h0];exact Ev.now _);rw [if_pos h0];rfl
 ·refine Ev.congr (f:=fun _=>some (tokR (.inr (p,v.2)))) (fun k=>?_) (by rw [if_neg h0];exact Ev.now _);rw [if_neg h0];rfl
theorem refnumber_loop (p:Nat) (d:Nat):∀ q:Nat,q≤s.size→s.size - q=d→p+1≤q→p+1+lead digB ((bytesOf s).drop (p+1))=q+lead digB ((bytesOf s).drop q) →
  Ev (fun k=>placketref13_number.l0 k s (p:Int) (q:Int)) (tokR (numQ p (lead digB ((bytesOf s).drop (p+1))) (parseS (bt s (p:Int) :: ((bytesOf s).drop (p+1)).take (lead digB ((bytesOf s).drop (p+1))))))):=by
 induction d with
 | zero=>
  intro q hq hd hpq hl;rw [lead_end _ s (show s.size≤q by omega),Nat.add_zero] at hl;refine Ev.succ ?_;simp only [placketref13_number.l0];refine Ev.congr (fun k=>?_) (refnumber_tail s hs (show p+1+lead digB ((bytesOf s).drop (p+1))=q by omega) (by omega));rw [if_neg (by omega)]
 | succ d ih=>
  intro q hq hd hpq hl;(have hql:q < s.size:=by omega);refine Ev.succ ?_;simp only [placketref13_number.l0,refdigit13_some,Option.bind_some];cases hc:digB (bt s (q:Int)) with
  | true=>
   refine Ev.congr (fun k=>?_) (ih (q+1) (by omega) (by omega) (by omega) (by rw [hl,lead_in _ s hql hc];omega));rw [if_pos (by omega),if_pos (by omega),if_pos rfl,i_next hql hs]
  | false=>
   rw [lead_out _ s hql hc,Nat.add_zero] at hl;refine Ev.congr (fun k=>?_) (refnumber_tail s hs (show p+1+lead digB ((bytesOf s).drop (p+1))=q by omega) (by omega));rw [if_pos (by omega),if_pos (by omega),if_neg (by decide)]
theorem refnumber_ev (p:Nat) (hp:p < s.size):Ev (fun k=>placketref13_number.f k s (p:Int)) (tokR (numQ p (lead digB ((bytesOf s).drop (p+1))) (parseS (bt s (p:Int) :: ((bytesOf s).drop (p+1)).take (lead digB ((bytesOf s).drop (p+1))))))):=by
 unfold placketref13_number.f;rw [i_next hp hs];exact refnumber_loop s hs p _ (p+1) (by omega) rfl (by omega) rfl
end
theorem refsigns:placketref13_Signs.f=some signsB:=by kernel_rfl
theorem refstarts_some (s y:ByteArray) (hs:s.size≤140737488351232) (p:Nat) (hp:p≤s.size) (hy:y.size≤2):placketref13_starts.f s (p:Int) y=some ((bytesOf y).isPrefixOf ((bytesOf s).drop p)):=by
 have h:=prefix_eq s y p hp;unfold placketref13_starts.f;rw [w64 (by omega) (by omega),w64 (by omega) (by omega)];by_cases hf:p+y.size≤s.size
 ·rw [if_pos (by omega),if_pos (by omega),if_pos (by omega),if_pos (by omega)];congr 1;rw [Bool.eq_iff_iff,h,beq_iff_eq,toList_inj,show ((p:Int)+(y.size:Int)).toNat=p+y.size by omega,Int.toNat_natCast];simp [hf]
 ·rw [if_neg (by omega)];congr 1;symm;rw [Bool.eq_false_iff];exact fun e=>hf (h.1 e).1
theorem rdB (i:Nat) (y:ByteArray) (h:signsB[i]? = some y):rdOf ByteArray.empty signsB (i:Int)=y:=by
 simp [rdOf,h]
section
variable (s:ByteArray) (hs:s.size≤140737488351232)
include hs
theorem refsign_loop (p:Nat) (hp:p < s.size) (d:Nat):∀ i:Nat,i≤23→23 - i=d→NotSign ((bytesOf s).drop p) i →
  Ev (fun k=>placketref13_Next.l2 k s (p:Int) signsB 23 (i:Int)) (tokR (signR p ((bytesOf s).drop p))):=by
 induction d with
 | zero=>
  intro i hi hd hn;(have:i=23:=by omega);subst this;rw [sign_miss hn];refine Ev.succ ?_;refine Ev.congr (f:=fun _=>some (tokR (.inr (p,2)))) (fun k=>?_) (Ev.now _);simp only [placketref13_Next.l2];rw [if_neg (by omega)];rfl
 | succ d ih=>
  intro i hi hd hn;(have hi2:i < 23:=by omega);obtain ⟨y,hy⟩:∃ y,signsB[i]? = some y:=⟨_,List.getElem?_eq_getElem (show i < signsB.length by simpa [signsB] using hi2)⟩;(have hx:signsL[i]? = some (bytesOf y):=by rw [← signs_bytes,List.getElem?_map,hy];rfl);have hy2:y.size≤2:=by
   have:=(signs_pos _ (List.mem_of_getElem? hx)).2;rwa [bytesOf_length] at this
  refine Ev.succ ?_;simp only [placketref13_Next.l2,rdB i y hy,refstarts_some s y hs p (by omega) hy2,Option.bind_some];cases hc:(bytesOf y).isPrefixOf ((bytesOf s).drop p) with
  | true=>
   rw [sign_hit hn hx hc];refine Ev.congr (f:=fun _=>some (tokR (.inl ⟨1,p,p+(bytesOf y).length,0,bytesOf y⟩))) (fun k=>?_) (Ev.now _);have:=((prefix_eq s y p (by omega)).1 hc).1;rw [if_pos (by omega),if_pos (by omega),if_pos (show (i:Int) < (signsB.length:Int) by simp [signsB];omega),if_pos rfl,w64 (by omega) (by omega)];simp [tokR,bytesOf_length,strOfNums_bytesOf]
  | false=>
   refine Ev.congr (fun k=>?_) (ih (i+1) (by omega) (by omega) (hn.next hx hc));rw [if_pos (by omega),if_pos (by omega),if_pos (show (i:Int) < (signsB.length:Int) by simp [signsB];omega),if_neg (by decide),i_next (n:=23) hi2 (by decide)]
theorem refword_end (p q:Nat) (hpq:p < q) (hq:q≤s.size):Ev (fun k=>placketref13_Next.j5 k s (p:Int) (q:Int)) (tokR (.inl ⟨2,p,q,0,((bytesOf s).drop p).take (q - p)⟩)):=by
 have _:=hs;refine Ev.succ ?_;refine Ev.congr (f:=fun _=>some (tokR (.inl ⟨2,p,q,0,((bytesOf s).drop p).take (q - p)⟩))) (fun k=>?_) (Ev.now _);simp only [placketref13_Next.j5];rw [if_pos (by omega),if_pos (by omega),if_pos (by omega),if_pos (by omega)];have e:=bytes_part s p (q - p) (by omega);rw [show p+(q - p)=q by omega] at e;simp only [tokR,Int.toNat_natCast];rw [← e,strOfNums_bytesOf]
theorem refsign_end (p:Nat) (hp:p < s.size):Ev (fun k=>placketref13_Next.j5 k s (p:Int) (p:Int)) (tokR (signR p ((bytesOf s).drop p))):=by
 refine Ev.succ ?_;simp only [placketref13_Next.j5,refsigns,Option.bind_some];refine Ev.congr (fun k=>?_) (refsign_loop s hs p hp 23 0 (by omega) rfl (fun j x h=>absurd h (by omega)));rw [if_neg (by omega)];rfl
theorem refname_at (p q:Nat) (hpq:p≤q) (hq:q < s.size):Ev (fun k=>placketref02_Name.f k (s.extract p (q+1))) (decide (isLet (bt s (p:Int))) && decide (q - p≤lead inName ((bytesOf s).drop (p+1)))):=by
 have h:=refname_ev (s.extract p (q+1)) (by simp;omega);have e:=bytes_word s p (q - p) (by omega);rw [show p+1+(q - p)=q+1 by omega] at e;rw [e,nameS_cons,take_all inName _ _ (by rw [List.length_drop,bytesOf_length];omega)] at h;exact h
theorem refword_loop (p:Nat) (hp:p < s.size) (hl:isLet (bt s (p:Int))) (d:Nat):∀ q:Nat,q≤s.size→s.size - q=d→p≤q→q≤p+1+lead inName ((bytesOf s).drop (p+1)) →
  Ev (fun k=>placketref13_Next.l1 k s (p:Int) (q:Int)) (tokR (.inl ⟨2,p,p+1+lead inName ((bytesOf s).drop (p+1)),0,bt s (p:Int) :: ((bytesOf s).drop (p+1)).take (lead inName ((bytesOf s).drop (p+1)))⟩)):=by
 have hle:=lead_le inName ((bytesOf s).drop (p+1));rw [List.length_drop,bytesOf_length] at hle;have hend:Ev (fun k=>placketref13_Next.j5 k s (p:Int) ((p+1+lead inName ((bytesOf s).drop (p+1)):Nat):Int)) (tokR (.inl ⟨2,p,p+1+lead inName ((bytesOf s).drop (p+1)),0,bt s (p:Int) :: ((bytesOf s).drop (p+1)).take (lead inName ((bytesOf s).drop (p+1)))⟩)):=by
  have:=refword_end s hs p (p+1+lead inName ((bytesOf s).drop (p+1))) (by omega) (by omega);rw [bytes_drop s hp,show p+1+lead inName ((bytesOf s).drop (p+1)) - p=lead inName ((bytesOf s).drop (p+1))+1 by omega,List.take_succ_cons] at this;exact this
 induction d with
 | zero=>
  intro q hq hd hpq hql;(have e:q=p+1+lead inName ((bytesOf s).drop (p+1)):=by omega);refine Ev.succ ?_;simp only [placketref13_Next.l1];refine Ev.congr (fun k=>?_) hend;rw [if_neg (by omega),← e]
 | succ d ih=>
  intro q hq hd hpq hql;(have hqs:q < s.size:=by omega);refine Ev.succ ?_;have hn:=refname_at s hs p q hpq hqs;refine Ev.congr (f:=fun k=>(placketref02_Name.f k (s.extract p (q+1))).bind fun t172=>(if t172=true then (placketref13_Next.l1 k s (p:Int) ((q+1:Nat):Int)) else (placketref13_Next.j5 k s (p:Int) (q:Int)))) (fun k=>?_) ?_
  ·simp only [placketref13_Next.l1];rw [if_pos (by omega),if_pos (by omega),i_next hqs hs,if_pos (by omega),if_pos (by omega),Int.toNat_natCast,Int.toNat_natCast]
  refine Ev.bind hn ?_;by_cases hc:q - p≤lead inName ((bytesOf s).drop (p+1))
  ·refine Ev.congr (fun k=>?_) (ih (q+1) (by omega) (by omega) (by omega) (by omega));rw [if_pos (by simp [hl,hc])]
  ·(have e:q=p+1+lead inName ((bytesOf s).drop (p+1)):=by omega);refine Ev.congr (fun k=>?_) hend;rw [if_neg (by simp [hl,hc]),← e]
theorem refnoword (p:Nat) (hp:p < s.size) (hl:¬ isLet (bt s (p:Int))):Ev (fun k=>placketref13_Next.l1 k s (p:Int) (p:Int)) (tokR (signR p ((bytesOf s).drop p))):=by
 refine Ev.succ ?_;have hn:=refname_at s hs p p (Nat.le_refl _) hp;refine Ev.congr (f:=fun k=>(placketref02_Name.f k (s.extract p (p+1))).bind fun t172=>(if t172=true then (placketref13_Next.l1 k s (p:Int) ((p+1:Nat):Int)) else (placketref13_Next.j5 k s (p:Int) (p:Int)))) (fun k=>?_) ?_
 ·simp only [placketref13_Next.l1];rw [if_pos (by omega),if_pos (by omega),i_next hp hs,if_pos (by omega),if_pos (by omega),Int.toNat_natCast,Int.toNat_natCast]
 refine Ev.bind hn ?_;refine Ev.congr (fun k=>?_) (refsign_end s hs p hp);rw [if_neg (by simp [hl])]
theorem refnext_at (p:Nat) (hp:p≤s.size):Ev (fun k=>placketref13_Next.j2 k s (p:Int)) (tokR (tokAt p ((bytesOf s).drop p))):=by
 refine Ev.succ ?_;simp only [placketref13_Next.j2];by_cases he:p=s.size
 ·rw [bytes_end s (by omega)];refine Ev.congr (f:=fun _=>some (tokR (.inl ⟨0,p,p,0,[]⟩))) (fun k=>?_) (Ev.now _);rw [if_pos (by omega)];rfl
 (have hlt:p < s.size:=by omega);have hX:=bytes_drop s hlt;by_cases h34:bt s (p:Int)=34
 ·rw [tokAt_text p _ (by rw [hX,h34];rfl)];unfold textR textQ;refine Ev.congr (f:=fun k=>(placketref02_Unquote.f k (s.extract p s.size)).bind fun bt161=>(if bt161.2.2=0 then (some (4,(p:Int),wrap64 ((p:Int)+bt161.2.1),0,bt161.1,0,0)) else (some (0,0,0,0,(⟨#[]⟩:ByteArray),wrap64 ((p:Int)+bt161.2.1),bt161.2.2)))) (fun k=>?_) ?_
  ·rw [if_neg (by omega),if_pos (by omega),if_pos (by omega),if_pos h34,if_pos (by omega),Int.toNat_natCast]
  refine Ev.bind (refunquote_ev (s.extract p s.size) (by simp;omega)) ?_;rw [bytes_from s p hp];have hl:=(unquoteL_len ((bytesOf s).drop p)).1;rw [List.length_drop,bytesOf_length] at hl;generalize unquoteL ((bytesOf s).drop p)=r at *
  unfold resU;simp only [];by_cases h0:r.2.2=0
  ·refine Ev.congr (f:=fun _=>some (tokR (.inl ⟨4,p,p+r.2.1,0,r.1⟩))) (fun k=>?_) (by rw [if_pos h0];exact Ev.now _);rw [if_pos h0,w64 (by omega) (by omega)];simp [tokR]
  ·refine Ev.congr (f:=fun _=>some (tokR (.inr (p+r.2.1,r.2.2)))) (fun k=>?_) (by rw [if_neg h0];exact Ev.now _);rw [if_neg h0,w64 (by omega) (by omega)];simp [tokR]
 have hnum:(bt s (p:Int)=45 ∨ isDig (bt s (p:Int)))→¬ isLet (bt s (p:Int)):=by
  unfold isDig isLet;omega
 have hj3:∀ b:Bool,(b=true ↔ (bt s (p:Int)=45 ∨ isDig (bt s (p:Int))))→Ev (fun k=>placketref13_Next.j3 k s (p:Int) b) (tokR (tokAt p ((bytesOf s).drop p))):=by
  intro b hb;refine Ev.succ ?_;simp only [placketref13_Next.j3];by_cases hd:bt s (p:Int)=45 ∨ isDig (bt s (p:Int))
  ·rw [hX,tokAt_num p _ _ h34 (hnum hd) hd];refine Ev.congr (f:=fun k=>(placketref13_number.f k s (p:Int)).bind fun bt165=>(some (bt165.1,bt165.2.1,bt165.2.2.1,bt165.2.2.2.1,bt165.2.2.2.2.1,bt165.2.2.2.2.2.1,bt165.2.2.2.2.2.2))) (fun k=>?_) ?_
   ·rw [if_pos (hb.2 hd)]
   ·exact Ev.bind (refnumber_ev s hs p hlt) (Ev.now _)
  ·have hbf:¬ b=true:=fun e=>hd (hb.1 e);by_cases hl:isLet (bt s (p:Int))
   ·rw [hX,tokAt_word p _ _ h34 hl];refine Ev.congr (fun k=>?_) (refword_loop s hs p hlt hl (s.size - p) p hp rfl (Nat.le_refl _) (by omega));rw [if_neg hbf]
   ·rw [hX,tokAt_sign p _ _ h34 hl hd,← hX];refine Ev.congr (fun k=>?_) (refnoword s hs p hlt hl);rw [if_neg hbf]
 by_cases h45:bt s (p:Int)=45
 ·refine Ev.congr (fun k=>?_) (hj3 true (by simp [h45]));rw [if_neg (by omega),if_pos (by omega),if_pos (by omega),if_neg h34,if_pos h45]
 ·refine Ev.congr (fun k=>?_) (hj3 (digB (bt s (p:Int))) (by simp [digB,h45]));rw [if_neg (by omega),if_pos (by omega),if_pos (by omega),if_neg h34,if_neg h45,refdigit13_some,Option.bind_some]
theorem refskip_loop (a:Nat) (d:Nat):∀ p:Nat,p≤s.size→s.size - p=d→a+lead Pure.blank ((bytesOf s).drop a)=p+lead Pure.blank ((bytesOf s).drop p)→Ev (fun k=>placketref13_Next.l0 k s (p:Int)) (tokR (nextS (bytesOf s) a)):=by
 induction d with
 | zero=>
  intro p hp hd hl;rw [lead_end Pure.blank s (i:=p) (by omega)] at hl;rw [nextS_at _ a p hl];refine Ev.succ ?_;simp only [placketref13_Next.l0];refine Ev.congr (fun k=>?_) (refnext_at s hs p hp);rw [if_neg (by omega)]
 | succ d ih=>
  intro p hp hd hl;(have hlt:p < s.size:=by omega);refine Ev.succ ?_;simp only [placketref13_Next.l0,refblank_some,Option.bind_some];cases hc:Pure.blank (bt s (p:Int)) with
  | true=>
   refine Ev.congr (fun k=>?_) (ih (p+1) (by omega) (by omega) (by rw [hl,lead_in _ s hlt hc];omega));rw [if_pos (by omega),if_pos (by omega),if_pos rfl,i_next hlt hs]
  | false=>
   rw [lead_out _ s hlt hc] at hl;rw [nextS_at _ a p hl];refine Ev.congr (fun k=>?_) (refnext_at s hs p hp);rw [if_pos (by omega),if_pos (by omega),if_neg (by decide)]
theorem refnext_ev (a:Int):Ev (fun k=>placketref13_Next.f k s a) (tokR (nextI (bytesOf s) a)):=by
 unfold placketref13_Next.f nextI;rw [bytesOf_length];by_cases h0:a < 0
 ·rw [if_pos (.inl h0)];simp only [if_pos h0];refine Ev.succ ?_;refine Ev.congr (f:=fun _=>some (tokR (.inr (0,1)))) (fun k=>?_) (Ev.now _);simp only [placketref13_Next.j0];rfl
 simp only [if_neg h0];refine Ev.succ ?_;simp only [placketref13_Next.j0];by_cases h1:a > (s.size:Int)
 ·rw [if_pos (.inr h1)];refine Ev.congr (f:=fun _=>some (tokR (.inr (0,1)))) (fun k=>?_) (Ev.now _);rw [if_pos (by simp [h1])];rfl
 ·rw [if_neg (show ¬ (a < 0 ∨ a > (s.size:Int)) by omega)];obtain ⟨n,rfl⟩:=Int.eq_ofNat_of_zero_le (show 0≤a by omega);refine Ev.congr (fun k=>?_) (refskip_loop s hs n _ n (by omega) rfl rfl);rw [if_neg (by simp;omega)]
def resA (r:List Pure.Tok ⊕ (Nat × Int)):List S24 × Int × Int:=
 match r with
 | .inl ts=>(ts.map tokS,0,0)
 | .inr (p,c)=>([],(p:Int),c)
theorem refall_loop (hsm:s.size≤1048576) (d:Nat):∀ (a:Nat) (l1:List Pure.Tok),a≤s.size→s.size - a < d→l1.length≤a→Ev (fun k=>placketref13_All.l0 k s (l1.map tokS) (a:Int)) (resA (preT l1 (allS (bytesOf s) a))):=by
 have hlen:=bytesOf_length s;induction d with
 | zero=>intro a l1 ha hd;omega
 | succ d ih=>
  intro a l1 ha hd hl;have hst:=allS_step (bytesOf s) (a:=a) (by rw [hlen];exact ha);have hn:=refnext_ev s hs (a:Int);rw [show nextI (bytesOf s) (a:Int)=nextS (bytesOf s) a by unfold nextI;rw [if_neg (by rw [hlen];omega)];rfl] at hn;refine Ev.succ ?_;simp only [placketref13_All.l0];refine Ev.bind hn ?_;cases hr:nextS (bytesOf s) a with
  | inr qc=>
   obtain ⟨q,c⟩:=qc;have hc:=(nextS_bad (by rw [hlen];exact ha) hr).2;rw [hst,hr];refine Ev.congr (f:=fun _=>some (resA (.inr (q,c)))) (fun k=>?_) (Ev.now _);simp only [tokR];rw [if_neg hc];rfl
  | inl t=>
   have hok:=nextS_ok (by rw [hlen];exact ha) hr;rw [hlen] at hok;simp only [tokR];by_cases h0:t.kind=0
   ·(have e:preT l1 (allS (bytesOf s) a) = .inl l1:=by rw [hst,hr];simp [h0,preT]);rw [e];refine Ev.congr (f:=fun _=>some (resA (.inl l1))) (fun k=>?_) (Ev.now _);simp [h0,resA]
   ·have h2:=hok.2.2.2.2 h0;have h1:=hok.1;have e:preT l1 (allS (bytesOf s) a)=preT (l1++[t]) (allS (bytesOf s) t.end_):=by
     rw [hst,hr];simp only [h0,if_false];cases allS (bytesOf s) t.end_ <;> simp [preT]
    rw [e];have:=ih t.end_ (l1++[t]) hok.2.1 (by omega) (by simp;omega);refine Ev.congr (fun k=>?_) this;simp only [if_true,h0,if_false];rw [if_pos (by rw [List.length_map];omega),List.map_append];rfl
theorem refall_ev:Ev (fun k=>placketref13_All.f k s) (resA (allR (bytesOf s))):=by
 unfold placketref13_All.f allR;rw [bytesOf_length];by_cases hb:(s.size:Int) > 1048576
 ·rw [if_pos (by omega)];simp only [if_pos hb];exact Ev.now _
 ·rw [if_neg (by omega)];simp only [if_neg hb];have:=refall_loop s hs (by omega) (s.size+1) 0 [] (Nat.zero_le _) (by omega) (Nat.le_refl _);(have e:preT [] (allS (bytesOf s) 0)=allS (bytesOf s) 0:=by cases allS (bytesOf s) 0 <;> rfl);rw [e] at this;exact this
end
end Go.Proofs.YtkbjblhompkdkaaDoor
namespace Go.Proofs.YtkbjblhompkdkaaDoor.Pure
set_option linter.unusedSimpArgs false
open Go.RowKit Go.Proofs.YtkbjblhompkdkaaDoor.PA Go.Proofs.YtkbjblhompkdkaaDoorW.PrintWords Go.Proofs.YtkbjblhompkdkaaDoorW.PrintLast
theorem refDigits_pos (u:Nat) (h:u≤9223372036854775807):Ev (fun k=>placketref01_Digits.f k (u:Int)) (strOfNums (decL u)):=by
 induction u using Nat.strongRecOn with
 | _ u ih=>
 by_cases hu:u < 10
 ·refine Ev.step (f:=fun _=>some (strOfNums [48+(u:Int)])) (fun k=>?_) ?_
  ·simp only [placketref01_Digits.f];rw [if_neg (by omega),if_neg (by omega),if_pos (by omega),w64 (by omega) (by omega),show (48+(u:Int)) % 256=48+(u:Int) by omega]
  ·rw [decL_small hu];exact Ev.now _
 ·have ih:=ih (u / 10) (by omega) (by omega);refine Ev.step (f:=fun k=>(placketref01_Digits.f k ((u / 10:Nat):Int)).bind fun t=>if t.size+(strOfNums [48+(u:Int) % 10]).size≤9223372036854775807 then some (t++strOfNums [48+(u:Int) % 10]) else none) (fun k=>?_) ?_
  ·simp only [placketref01_Digits.f];rw [if_neg (by omega),if_neg (by omega),if_neg (by omega),Int.tdiv_eq_ediv_of_nonneg (by omega),Int.tmod_eq_emod_of_nonneg (by omega),w64 (by omega) (by omega),w64 (by omega) (by omega),show (48+(u:Int) % 10) % 256=48+(u:Int) % 10 by omega];rw [show (u:Int) / 10=((u / 10:Nat):Int) by omega];simp only [Option.bind_some]
  ·rw [decL_big hu,strOfNums_append];refine Ev.bind ih ?_;refine Ev.congr (f:=fun _=>some (strOfNums (decL (u / 10))++strOfNums [48+(u:Int) % 10])) (fun k=>?_) (Ev.now _);have:=decL_len (u / 10) (by omega);rw [if_pos];rw [strOfNums_size,strOfNums_size];simp;omega
theorem refDigits_ev (n:Int) (h0 : -9223372036854775808≤n) (h1:n≤9223372036854775807):Ev (fun k=>placketref01_Digits.f k n) (strOfNums (digL n)):=by
 unfold digL;by_cases hl:n = -9223372036854775808
 ·subst hl;refine Ev.step (f:=fun _=>some (⟨#[45,57,50,50,51,51,55,50,48,51,54,56,53,52,55,55,53,56,48,56]⟩:ByteArray)) (fun k=>?_) ?_
  ·simp only [placketref01_Digits.f];rw [if_pos trivial]
  ·(have e:strOfNums (if (-9223372036854775808:Int) < 0 then 45 :: decL (-9223372036854775808:Int).natAbs else decL (-9223372036854775808:Int).natAbs)=(⟨#[45,57,50,50,51,51,55,50,48,51,54,56,53,52,55,55,53,56,48,56]⟩:ByteArray):=by kernel_rfl);rw [e];exact Ev.now _
 ·by_cases hn:n < 0
  ·rw [if_pos hn];have:=refDigits_pos n.natAbs (by omega);refine Ev.step (f:=fun k=>(placketref01_Digits.f k (n.natAbs:Int)).bind fun t=>if 1+t.size≤9223372036854775807 then some ((⟨#[45]⟩:ByteArray)++t) else none) (fun k=>?_) ?_
   ·simp only [placketref01_Digits.f];rw [if_neg hl,if_pos hn,w64 (by omega) (by omega),show -n=(n.natAbs:Int) by omega]
   ·refine Ev.bind this ?_;refine Ev.congr (f:=fun _=>some (strOfNums (45 :: decL n.natAbs))) (fun k=>?_) (Ev.now _);have:=decL_len n.natAbs (by omega);rw [if_pos (by rw [strOfNums_size];omega)];rw [show (45 :: decL n.natAbs) = [45]++decL n.natAbs from rfl,strOfNums_append];rfl
  ·rw [if_neg hn];have:=refDigits_pos n.natAbs (by omega);rw [show (n.natAbs:Int)=n by omega] at this;exact this
theorem refdigit_some (x:Int) (h0:0≤x) (h1:x < 16):placketref02_digit.f x=some (hexD x):=by
 unfold placketref02_digit.f hexD;split <;> (congr 1;omega)
theorem letter_34:letterS 34=34:=by simp [letterS]
theorem letter_92:letterS 92=92:=by simp [letterS]
theorem letter_10:letterS 10=110:=by simp [letterS]
theorem letter_9:letterS 9=116:=by simp [letterS]
theorem letter_13:letterS 13=114:=by simp [letterS]
theorem letter_no {c:Int} (h1:c ≠ 34) (h2:c ≠ 92) (h3:c ≠ 10) (h4:c ≠ 9) (h5:c ≠ 13):letterS c=0:=by simp [letterS,h1,h2,h3,h4,h5]
theorem refone_some (k:Nat) (c:Int) (h0:0≤c) (h1:c≤255):placketref02_one.f (k+2) c=some (qone c):=by
 unfold placketref02_one.f qone;by_cases e1:c=34
 ·subst e1;simp [placketref02_one.j0,letter_34]
 by_cases e2:c=92
 ·subst e2;simp [placketref02_one.j0,letter_92]
 simp only [e1,if_false,show (c == 92)=false from beq_eq_false_iff_ne.2 e2,placketref02_one.j0,show ¬ (false=true) by simp];by_cases e3:c=10
 ·subst e3;simp [letter_10]
 by_cases e4:c=9
 ·subst e4;simp [letter_9]
 by_cases e5:c=13
 ·subst e5;simp [letter_13]
 simp only [e3,e4,e5,if_false,letter_no e1 e2 e3 e4 e5,show ¬ ((0:Int) > 0) by omega];have hx:placketref02_one.j1 (k+1) c true=some [92,120,hexD (c / 16),hexD (c % 16)]:=by
  simp only [placketref02_one.j1,if_true];rw [Int.tdiv_eq_ediv_of_nonneg h0,Int.tmod_eq_emod_of_nonneg h0,show c / 16 % 256=c / 16 by omega,refdigit_some _ (by omega) (by omega),refdigit_some _ (by omega) (by omega)];rfl
 by_cases e6:c < 32
 ·simp only [e6,if_true,true_or];exact hx
 ·simp only [e6,if_false,false_or];by_cases e7:c > 126
  ·simp only [e7,decide_true,if_true];exact hx
  ·simp only [e7,decide_false,if_false,placketref02_one.j1,Bool.false_eq_true]
section
variable (s:ByteArray)
theorem refquote_loop (hs:s.size≤35184372088830) (d:Nat):∀ (i:Nat) (acc:List Int),i≤s.size→s.size - i=d→acc.length≤4 * i+1 →
  Ev (fun k=>placketref02_Quote.l0 k s acc (s.size:Int) (i:Int)) (strOfNums (acc++qbody ((bytesOf s).drop i)++[34])):=by
 induction d with
 | zero=>
  intro i acc hi hd ha;rw [bytes_end s (by omega)];refine Ev.succ ?_;simp only [placketref02_Quote.l0,show ¬ ((i:Int) < (s.size:Int)) by omega,show acc.length < 140737488355328 by omega,if_true,if_false];simp only [qbody,List.flatMap_nil,List.append_nil];exact Ev.now _
 | succ d ih=>
  intro i acc hi hd ha;(have hlt:i < s.size:=by omega);have hb:=bt_range s (i:Int);have hn:=i_next hlt (by omega);rw [bytes_drop s hlt];(have e:qbody (bt s (i:Int) :: (bytesOf s).drop (i+1))=qone (bt s (i:Int))++qbody ((bytesOf s).drop (i+1)):=by simp [qbody]);rw [e,← List.append_assoc];have hql:=qone_length (bt s (i:Int));have ih:=ih (i+1) (acc++qone (bt s (i:Int))) (by omega) (by omega) (by rw [List.length_append];omega);refine Ev.succ (Ev.succ (Ev.succ ?_));simp only [placketref02_Quote.l0,show (i:Int) < (s.size:Int) by omega,show (0:Int)≤(i:Int) by omega,if_true,hn,refone_some _ _ hb.1 hb.2,Option.bind_some,show acc.length+(qone (bt s (i:Int))).length < 140737488355328 by omega];exact Ev.add ih 2
theorem refquote_ev (hs:s.size≤35184372088830):Ev (fun k=>placketref02_Quote.f k s) (strOfNums (quoteL (bytesOf s))):=by
 have:=refquote_loop s hs s.size 0 [34] (by omega) (by omega) (by simp);rw [List.drop_zero] at this;exact this
end
section
variable (L:List S24) (hL:L.length≤1048576) (hx:∀ x ∈ L,x.f4.size≤1048576 ∧ -9223372036854775808≤x.f3∧x.f3≤9223372036854775807)
include hL hx
theorem refprint_loop (d:Nat):∀ (i:Nat) (acc:ByteArray),i≤L.length→L.length - i=d→acc.size≤i * 5000000→Ev (fun k=>placketref13_Print.l0 k acc L (L.length:Int) (i:Int)) (acc++printG (i == 0) (L.drop i)):=by
 induction d with
 | zero=>
  intro i acc hi hd hacc;refine Ev.succ ?_;refine Ev.congr (f:=fun _=>some acc) (fun k=>?_) ?_
  ·simp only [placketref13_Print.l0];rw [if_neg (by omega)]
  ·rw [List.drop_eq_nil_of_le (by omega),printG,bytes_add_nil];exact Ev.now _
 | succ d ih=>
  intro i acc hi hd hacc;(have hlt:i < L.length:=by omega);obtain ⟨x,hxi⟩:∃ x,L[i]? = some x:=⟨_,List.getElem?_eq_getElem hlt⟩;(have hrd:rd_T24 L (i:Int)=x:=by simp [rd_T24,hxi]);have hdrop:L.drop i=x :: L.drop (i+1):=by
   rw [List.drop_eq_getElem_cons hlt];congr 1;exact (List.getElem?_eq_some_iff.1 hxi).2
  obtain ⟨hsz,h0,h1⟩:=hx x (List.mem_of_getElem? hxi);have hrep:=reprB_size x hsz h0 h1;have key:∀ acc':ByteArray,acc'.size≤i * 5000000+1→Ev (fun k=>placketref13_Print.j1 k acc' L (L.length:Int) (i:Int) x.f0 x.f1 x.f2 x.f3 x.f4) (acc'++reprB x++printG false (L.drop (i+1))):=by
   intro acc' ha;have ih':=ih (i+1) (acc'++reprB x) (by omega) (by omega) (by rw [ByteArray.size_append];omega);rw [show (i+1 == 0)=false from rfl] at ih';have hn:=i_next (n:=L.length) hlt (by omega);have j2:∀ b:Bool,(b=true ↔ (x.f0=1 ∨ x.f0=2))→Ev (fun k=>placketref13_Print.j2 k acc' L (L.length:Int) (i:Int) x.f0 b x.f0 x.f1 x.f2 x.f3 x.f4) (acc'++reprB x++printG false (L.drop (i+1))):=by
    intro b hb;refine Ev.succ ?_;by_cases hk:x.f0=1 ∨ x.f0=2
    ·(have e:reprB x=x.f4:=by unfold reprB;rw [if_pos hk]);rw [e] at ih' ⊢;refine Ev.congr (fun k=>?_) ih';simp only [placketref13_Print.j2];rw [if_pos (hb.2 hk),if_pos (by omega),hn]
    ·have hbf:¬ b=true:=fun e=>hk (hb.1 e);by_cases h3:x.f0=3
     ·(have e:reprB x=strOfNums (digL x.f3):=by unfold reprB;rw [if_neg hk,if_pos h3]);rw [e] at ih' ⊢ hrep;refine Ev.congr (f:=fun k=>(placketref01_Digits.f k x.f3).bind fun t227=>(if acc'.size+t227.size≤9223372036854775807 then (placketref13_Print.l0 k (acc'++t227) L (L.length:Int) (wrap64 ((i:Int)+1))) else (none))) (fun k=>?_) ?_
      ·simp only [placketref13_Print.j2];rw [if_neg hbf,if_pos h3]
      refine Ev.bind (refDigits_ev x.f3 h0 h1) ?_;refine Ev.congr (fun k=>?_) ih';rw [if_pos (by omega),hn]
     ·by_cases h4:x.f0=4
      ·(have e:reprB x=strOfNums (quoteL (bytesOf x.f4)):=by unfold reprB;rw [if_neg hk,if_neg h3,if_pos h4]);rw [e] at ih' ⊢ hrep;refine Ev.congr (f:=fun k=>(placketref02_Quote.f k x.f4).bind fun t228=>(if acc'.size+t228.size≤9223372036854775807 then (placketref13_Print.l0 k (acc'++t228) L (L.length:Int) (wrap64 ((i:Int)+1))) else (none))) (fun k=>?_) ?_
       ·simp only [placketref13_Print.j2];rw [if_neg hbf,if_neg h3,if_pos h4]
       refine Ev.bind (refquote_ev x.f4 (by omega)) ?_;refine Ev.congr (fun k=>?_) ih';rw [if_pos (by omega),hn]
      ·(have e:reprB x=⟨#[]⟩:=by unfold reprB;rw [if_neg hk,if_neg h3,if_neg h4]);rw [e,bytes_add_nil] at ih' ⊢;refine Ev.congr (fun k=>?_) ih';simp only [placketref13_Print.j2];rw [if_neg hbf,if_neg h3,if_neg h4,hn]
   refine Ev.succ ?_;simp only [placketref13_Print.j1];by_cases h1:x.f0=1
   ·refine Ev.congr (fun k=>?_) (j2 (x.f0 == 1) (by simp [h1]));rw [if_pos h1]
   ·refine Ev.congr (fun k=>?_) (j2 (x.f0 == 2) (by simp [h1]));rw [if_neg h1]
  refine Ev.succ ?_;simp only [placketref13_Print.l0,hrd];rw [hdrop];by_cases hi0:i=0
  ·subst hi0;(have e:acc++printG (0 == 0) (x :: L.drop (0+1))=acc++reprB x++printG false (L.drop (0+1)):=by simp [printG,ByteArray.append_assoc,nil_add_bytes]);rw [e];refine Ev.congr (fun k=>?_) (key acc (by omega));rw [if_pos (by omega),if_pos (by omega),if_pos (by omega),if_neg (by omega)]
  ·(have e:acc++printG (i == 0) (x :: L.drop (i+1))=(acc++(⟨#[32]⟩:ByteArray))++reprB x++printG false (L.drop (i+1)):=by simp [printG,ByteArray.append_assoc,hi0]);(have hs1:(acc++(⟨#[32]⟩:ByteArray)).size=acc.size+1:=by rw [ByteArray.size_append];rfl);rw [e];refine Ev.congr (fun k=>?_) (key (acc++(⟨#[32]⟩:ByteArray)) (by rw [hs1];omega));rw [if_pos (by omega),if_pos (by omega),if_pos (by omega),if_pos (by omega),if_pos (by omega)]
theorem refprint_ev:Ev (fun k=>placketref13_Print.f k L) (printG true L):=by
 unfold placketref13_Print.f;have:=refprint_loop L hL hx _ 0 (⟨#[]⟩:ByteArray) (Nat.zero_le _) rfl (by decide);rw [List.drop_zero,nil_add_bytes] at this;exact this
end
end Go.Proofs.YtkbjblhompkdkaaDoor.Pure
namespace Go.Proofs.YtkbjblhompkdkaaDoor.Pure
set_option linter.unusedSimpArgs false
open Go.RowKit Go.Proofs.YtkbjblhompkdkaaDoor Go.Proofs.YtkbjblhompkdkaaDoor.PA Go.Proofs.YtkbjblhompkdkaaDoor.PB Go.Proofs.YtkbjblhompkdkaaDoor.PC Go.Proofs.YtkbjblhompkdkaaDoorW.PrintWords Go.Proofs.YtkbjblhompkdkaaDoorW.PrintLast
theorem text_eq {t:Tok} (h:InB t.text) (x:List Int) (b:List UInt8) (hb:bytesOf ⟨b.toArray⟩=x):((strOfNums t.text).toList == b)=decide (t.text=x):=by
 (have e:b=(⟨b.toArray⟩:ByteArray).toList:=by rw [ByteArray.toList_eq]);rw [Bool.eq_iff_iff,beq_iff_eq,decide_eq_true_iff,e,toList_inj,← hb];constructor
 ·intro h1;rw [← h1,bytesOf_strOfNums _ h]
 ·intro h1;rw [h1,strOfNums_bytesOf]
theorem depths_loop (ts:List Tok) (hi:∀ t ∈ ts,InB t.text) (hl:ts.length≤1048576):∀ (d x:Nat) (n:Int),ts.length - x=d→x≤ts.length→0≤n→n≤x →
  Ev (fun k=>placketref16_depths.l0 k (ts.map tokS) n (ts.map tokS) (ts.length:Int) (x:Int)) (depthC (ts.drop x) n && decide (ts ≠ [])):=by
 intro d;induction d with
 | zero=>
  intro x n hd hx hn0 hn1;have hdr:ts.drop x = []:=List.drop_eq_nil_of_le (by omega);rw [hdr];refine Ev.succ ?_;simp only [placketref16_depths.l0,List.length_map,if_neg (show ¬ ((x:Int) < (ts.length:Int)) by omega)];refine Ev.congr (fun k=>?_) (Ev.now _);by_cases h0:n=0
  ·subst h0;cases ts <;> simp [depthC]
  ·simp [depthC,h0]
 | succ d ih=>
  intro x n hd hx hn0 hn1;obtain ⟨t,us,hdr⟩:∃ t us,ts.drop x=t :: us:=by
   cases hdr:ts.drop x with
   | nil=>have:=List.drop_eq_nil_iff.1 hdr;omega
   | cons t us=>exact ⟨t,us,rfl⟩
  (have hus:ts.drop (x+1)=us:=by rw [← List.drop_drop,hdr];rfl);have hti:InB t.text:=hi t (List.mem_of_mem_drop (show t ∈ ts.drop x by rw [hdr];exact List.mem_cons_self));have hrd:rd_T24 (ts.map tokS) (x:Int)=tokS t:=rd_tok (by rw [Int.toNat_natCast];exact hdr);have e40:=text_eq hti [40] [40] rfl;have e41:=text_eq hti [41] [41] rfl;have hw:∀ n:Int,-1048577≤n→n≤1048577→wrap64 n=n:=fun n h1 h2=>w64 (by omega) (by omega);(have hwx:wrap64 ((x:Int)+1)=((x+1:Nat):Int):=by rw [hw _ (by omega) (by omega)];omega);rw [hdr];have IH:=ih (x+1);rw [hus] at IH;by_cases h1:t.kind=1
  ·by_cases h40:t.text = [40]
   ·have e40:=e40.trans (decide_eq_true h40);have e41:=e41.trans (decide_eq_false (show ¬ t.text = [41] by rw [h40];decide));(have ho:openC t n=n+1:=by simp [openC,isS,h1,h40]);simp only [depthC,ho,if_neg (show ¬ (n+1 < 0) by omega)];refine Ev.succ (Ev.succ (Ev.succ (Ev.succ ?_)));refine Ev.congr (fun k=>?_) (IH (n+1) (by omega) (by omega) (by omega) (by omega));simp only [placketref16_depths.l0,placketref16_depths.j1,placketref16_depths.j2,placketref16_depths.j3,hrd,tokS,e40,e41,h1,if_pos (show (x:Int) < (ts.length:Int) by omega),List.length_map,if_pos (show (0:Int)≤(x:Int) by omega),decide_true,decide_false,if_true,hw _ (show -1048577≤n+1 by omega) (by omega),if_neg (show ¬ (n+1 < 0) by omega),hwx];simp
   ·by_cases h41:t.text = [41]
    ·have e40:=e40.trans (decide_eq_false h40);have e41:=e41.trans (decide_eq_true h41);(have ho:openC t n=n - 1:=by simp [openC,isS,h1,h41]);simp only [depthC,ho];by_cases hng:n - 1 < 0
     ·rw [if_pos hng];refine Ev.succ (Ev.succ (Ev.succ (Ev.succ ?_)));refine Ev.congr (fun k=>?_) (Ev.now _);simp only [placketref16_depths.l0,placketref16_depths.j1,placketref16_depths.j2,placketref16_depths.j3,hrd,tokS,e40,e41,h1,if_pos (show (x:Int) < (ts.length:Int) by omega),List.length_map,if_pos (show (0:Int)≤(x:Int) by omega),decide_true,decide_false,if_true,hw _ (show -1048577≤n - 1 by omega) (by omega),if_pos hng,hwx];simp
     ·rw [if_neg hng];refine Ev.succ (Ev.succ (Ev.succ (Ev.succ ?_)));refine Ev.congr (fun k=>?_) (IH (n - 1) (by omega) (by omega) (by omega) (by omega));simp only [placketref16_depths.l0,placketref16_depths.j1,placketref16_depths.j2,placketref16_depths.j3,hrd,tokS,e40,e41,h1,if_pos (show (x:Int) < (ts.length:Int) by omega),List.length_map,if_pos (show (0:Int)≤(x:Int) by omega),decide_true,decide_false,if_true,hw _ (show -1048577≤n - 1 by omega) (by omega),if_neg hng,hwx];simp
    ·have e40:=e40.trans (decide_eq_false h40);have e41:=e41.trans (decide_eq_false h41);(have ho:openC t n=n:=by simp [openC,isS,h40,h41]);simp only [depthC,ho,if_neg (show ¬ (n < 0) by omega)];refine Ev.succ (Ev.succ (Ev.succ (Ev.succ ?_)));refine Ev.congr (fun k=>?_) (IH n (by omega) (by omega) (by omega) (by omega));simp only [placketref16_depths.l0,placketref16_depths.j1,placketref16_depths.j2,placketref16_depths.j3,hrd,tokS,e40,e41,h1,if_pos (show (x:Int) < (ts.length:Int) by omega),List.length_map,if_pos (show (0:Int)≤(x:Int) by omega),decide_true,decide_false,if_true,if_neg (show ¬ (n < 0) by omega),hwx];simp
  ·(have ho:openC t n=n:=by simp [openC,isS,h1]);simp only [depthC,ho,if_neg (show ¬ (n < 0) by omega)];refine Ev.succ (Ev.succ (Ev.succ (Ev.succ ?_)));refine Ev.congr (fun k=>?_) (IH n (by omega) (by omega) (by omega) (by omega));simp only [placketref16_depths.l0,placketref16_depths.j1,placketref16_depths.j2,placketref16_depths.j3,hrd,tokS,h1,if_pos (show (x:Int) < (ts.length:Int) by omega),List.length_map,if_pos (show (0:Int)≤(x:Int) by omega),if_false,if_neg (show ¬ (n < 0) by omega),hwx];simp
theorem refbal_ev (s:ByteArray) (hs:s.size≤1048576):Ev (fun k=>placketref16_Balanced.f k s) (balC (bytesOf s)):=by
 unfold placketref16_Balanced.f balC;have hall:=refall_ev s (by omega);refine Ev.bind hall ?_;cases hr:allR (bytesOf s) with
 | inr pc=>
  obtain ⟨p,c⟩:=pc;have hc:c ≠ 0:=by
   (have h1:allR (bytesOf s)=allS (bytesOf s) 0:=by unfold allR;rw [if_neg (by rw [bytesOf_length];omega)]);rw [h1] at hr;exact (allS_bad (bytesOf s) _ 0 (Nat.zero_le _) (Nat.le_refl _) _ hr).2
  simp only [resA];exact Ev.congr (fun k=>if_neg hc) (Ev.now _)
 | inl ts=>
  obtain ⟨hfo,hle,hal⟩:=allR_ok hr;have htk:=toks_ok (bytesOf_range s) hal;rw [bytesOf_length] at hle htk;have hib:=print_bytes (bytesOf_range s) ts (allS_good _ ts 0 (Nat.zero_le _) hal);simp only [resA,if_true];have hp:=refprint_ev (ts.map tokS) (by rw [List.length_map];omega) (by
   intro x hx;obtain ⟨t,ht,rfl⟩:=List.mem_map.1 hx;have:=htk t ht;exact ⟨by simp only [tokS,strOfNums_size];omega,this.2.2⟩)
  rw [printG_toks ts (fun t ht=>(htk t ht).1)] at hp;refine Ev.bind hp ?_;have hcmp:((strOfNums (printS ts)).toList=s.toList) ↔ printS ts=bytesOf s:=by
   rw [toList_inj];constructor
   ·intro h1;rw [← h1,bytesOf_strOfNums _ hib]
   ·intro h1;rw [h1,strOfNums_bytesOf]
  by_cases hps:printS ts=bytesOf s
  ·simp only [if_pos (hcmp.2 hps),if_pos hps];have hd:=depths_loop ts (fun t ht=>(htk t ht).1) (by omega) ts.length 0 0 (by omega) (Nat.zero_le _) (by omega) (by omega);rw [List.drop_zero] at hd;refine Ev.bind (a:=(depthC ts 0 && decide (ts ≠ []))) ?_ ?_
   ·refine Ev.congr (fun k=>?_) hd;unfold placketref16_depths.f;rw [List.length_map];rfl
   ·refine Ev.congr (fun k=>?_) (Ev.now _);cases ts <;> simp
  ·simp only [if_neg (fun h=>hps (hcmp.1 h)),if_neg hps];refine Ev.congr (fun k=>?_) (Ev.now _);cases ts <;> simp
end Go.Proofs.YtkbjblhompkdkaaDoor.Pure

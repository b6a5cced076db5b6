/- YtkbjblhompkdkaaDoorRouteChecksQ7: PBx3, RouteToks, LexBackP, RoutePure, LexAllLemmas, RouteRead -/
import Derived.Test.YtkbjblhompkdkaaDoorRouteChecksQ6
import Derived.Test.YtkbjblhompkdkaaDoorRouteChecksQ5
import Derived.Test.YtkbjblhompkdkaaDoorRouteChecksQ4
namespace Go.Proofs.YtkbjblhompkdkaaDoor.PB
open Go.Proofs.YtkbjblhompkdkaaDoor.PA
open Go.RowKit Go.Proofs.YtkbjblhompkdkaaDoorW.PrintWords Go.Proofs.YtkbjblhompkdkaaDoorW.PrintLast
set_option linter.unusedVariables false
set_option linter.unusedSimpArgs false
def route_is.f (a0_0:Int) (a0_1:Int) (a0_2:Int) (a0_3:Int) (a0_4:ByteArray) (a1:ByteArray):Option (Bool):=if a0_0=1 then (some (a0_4.toList == a1.toList)) else (some false)
set_option maxHeartbeats 8000000 in
set_option maxRecDepth 100000 in
theorem route_is.calls (a0_0:Int) (a0_1:Int) (a0_2:Int) (a0_3:Int) (a0_4:ByteArray) (a1:ByteArray) (r:Bool) (w:World) (h:route_is.f a0_0 a0_1 a0_2 a0_3 a0_4 a1=some r) :
  Calls Tryd.prog 61 #[.agg #[.int .i64 a0_0,.int .i64 a0_1,.int .i64 a0_2,.int .i64 a0_3,.string a0_4],.string a1] w fun e w'=>e = .returned (.bool r)∧Below w.heap.size w w':=by
 have hu24:=Tryd.underlying24;have HB:=Aside0.mk (Below.refl w.heap.size w);have H:(if a0_0=1 then (some (a0_4.toList == a1.toList)) else (some false))=some r:=h;clear h;by_cases c3:a0_0=1
 ·rw [if_pos c3] at H;have c3b0:(a0_0 == 1)=true:=beq_iff_eq.mpr c3;have c3b1:(a0_0 != 1)=false:=bne_eq_false_iff_eq.mpr c3;clear c3;obtain rfl:=Option.some.inj H;(go_enter Tryd.func61,Tryd.ntmps61);go_wp2_with (first|((with_reducible refine gate_dst (N:=2) rfl ?_);refine box_event ?hg (N:=2) ?hd (cs:=#[.int .i64 a0_0,.int .i64 a0_1,.int .i64 a0_2,.int .i64 a0_3,.string a0_4]) (t:=24) ?hr ?_;(case hd=>rfl);(case hg=>rfl);(case hr=>first|(go_simp;done)|(go_simp;rfl));intro gb107 hg w4 hbox hb;have n0_:=Aside0.mk (below_step (bw HB.out) hb);have n1_:=Aside0.mk (hbox);have n2_:=Aside0.mk ((by rw [hg];exact (below_size (bw HB.out)):w.heap.size≤gb107));have n3_:=Aside0.mk ((by rw [hg];exact (below_size (bw HB.out)):w.heap.size≤gb107));clear HB;have HB:=n0_;have BK107:=n1_;have GW107:=n2_;have GE107:=n3_;clear n0_ n1_ n2_ n3_;clear hb hbox hg;obtain ⟨hcz5_0,hcz5_1,hcz5_2,hcz5_3,hcz5_4⟩:=cells5 BK107.out;obtain ⟨hfz5_0,hfz5_1,hfz5_2,hfz5_3,hfz5_4⟩:=frozen5 BK107.out));go_ret;exact ⟨by first|rfl|(simp [errW_none,errW_some] <;> rfl)|(simp [*,errW_none,errW_some] <;> rfl),by repeat (first|(with_reducible first|exact HB.out|apply below_alloc|apply pw_below_drewN|apply below_drew1|refine below_set ?_ GE107.out)|exact HB.out)⟩
 ·rw [if_neg c3] at H;have c3b0:(a0_0 == 1)=false:=beq_eq_false_iff_ne.mpr c3;have c3b1:(a0_0 != 1)=true:=bne_iff_ne.mpr c3;obtain rfl:=Option.some.inj H;(go_enter Tryd.func61,Tryd.ntmps61);go_wp2_with (first|((with_reducible refine gate_dst (N:=2) rfl ?_);refine box_event ?hg (N:=2) ?hd (cs:=#[.int .i64 a0_0,.int .i64 a0_1,.int .i64 a0_2,.int .i64 a0_3,.string a0_4]) (t:=24) ?hr ?_;(case hd=>rfl);(case hg=>rfl);(case hr=>first|(go_simp;done)|(go_simp;rfl));intro gb107 hg w6 hbox hb;have n0_:=Aside0.mk (below_step (bw HB.out) hb);have n1_:=Aside0.mk (hbox);have n2_:=Aside0.mk ((by rw [hg];exact (below_size (bw HB.out)):w.heap.size≤gb107));have n3_:=Aside0.mk ((by rw [hg];exact (below_size (bw HB.out)):w.heap.size≤gb107));clear HB;have HB:=n0_;have BK107:=n1_;have GW107:=n2_;have GE107:=n3_;clear n0_ n1_ n2_ n3_;clear hb hbox hg;obtain ⟨hcz7_0,hcz7_1,hcz7_2,hcz7_3,hcz7_4⟩:=cells5 BK107.out;obtain ⟨hfz7_0,hfz7_1,hfz7_2,hfz7_3,hfz7_4⟩:=frozen5 BK107.out));go_ret;exact ⟨by first|rfl|(simp [errW_none,errW_some] <;> rfl)|(simp [*,errW_none,errW_some] <;> rfl),by repeat (first|(with_reducible first|exact HB.out|apply below_alloc|apply pw_below_drewN|apply below_drew1|refine below_set ?_ GE107.out)|exact HB.out)⟩
mutual
def quote_Name.l0:Nat→ByteArray→Int→Int→Option (Bool)
 | 0,_,_,_=>none
 | k+1,x0,x8,x9=>if x9 < x8 then (if 0≤x9 then (if x9 < (x0.size:Int) then (if (bt x0 x9) ≥ 97 then (quote_Name.j1 k x0 x9 (bt x0 x9) x8 x9 (decide ((bt x0 x9)≤122))) else (quote_Name.j1 k x0 x9 (bt x0 x9) x8 x9 false)) else (none)) else (none)) else (some true)
def quote_Name.j1:Nat→ByteArray→Int→Int→Int→Int→Bool→Option (Bool)
 | 0,_,_,_,_,_,_=>none
 | k+1,x0,x3,x4,x8,x9,x15=>if x15=true then (quote_Name.j2 k x0 x3 x4 x8 x9 x15) else (if x4 ≥ 65 then (if x4≤90 then (quote_Name.j2 k x0 x3 x4 x8 x9 (decide (x4≤90))) else (quote_Name.j2 k x0 x3 x4 x8 x9 (x4 == 95))) else (quote_Name.j2 k x0 x3 x4 x8 x9 (x4 == 95)))
def quote_Name.j2:Nat→ByteArray→Int→Int→Int→Int→Bool→Option (Bool)
 | 0,_,_,_,_,_,_=>none
 | k+1,x0,x3,x4,x8,x9,x15=>if x15=true then (quote_Name.l0 k x0 x8 (wrap64 (x9+1))) else (if x3 > 0 then (if x4 ≥ 48 then (if x4≤57 then (quote_Name.l0 k x0 x8 (wrap64 (x9+1))) else (some false)) else (some false)) else (some false))
end
def quote_Name.f (k:Nat) (a0:ByteArray):Option (Bool):=if a0.toList=([]:List UInt8) then (some false) else (quote_Name.l0 k a0 (a0.size:Int) 0)
set_option maxHeartbeats 8000000 in
set_option maxRecDepth 100000 in
theorem quote_Name.calls (k:Nat) (a0:ByteArray) (r:Bool) (w:World) (h:quote_Name.f k a0=some r) :
  Calls Tryd.prog 68 #[.string a0] w fun e w'=>e = .returned (.bool r)∧Drawn0 w w':=by
 have H:(if a0.toList=([]:List UInt8) then (some false) else (quote_Name.l0 k a0 (a0.size:Int) 0))=some r:=h;clear h;by_cases c2:a0.toList=([]:List UInt8)
 ·rw [if_pos c2] at H;have c2b0:(a0.toList == ([]:List UInt8))=true:=beq_iff_eq.mpr c2;have c2b1:(a0.toList != ([]:List UInt8))=false:=bne_eq_false_iff_eq.mpr c2;clear c2;obtain rfl:=Option.some.inj H;(go_enter Tryd.func68,Tryd.ntmps68);go_wp2;go_ret;exact ⟨by first|rfl|(simp;done)|(simp [*];done),by repeat (first|exact Drawn0.refl _|apply Drawn0.step)⟩
 ·rw [if_neg c2] at H;have c2b0:(a0.toList == ([]:List UInt8))=false:=beq_eq_false_iff_ne.mpr c2;have c2b1:(a0.toList != ([]:List UInt8))=true:=bne_iff_ne.mpr c2;have H':=Aside0.mk H;clear H;(go_enter Tryd.func68,Tryd.ntmps68);go_wp2;go_loopg [9] k (fun kq v9 w'=>∃ (x9_1:Int),v9 = .int .i64 x9_1∧Aside0 (quote_Name.l0 kq a0 (a0.size:Int) x9_1=some r)∧Aside0 (kq≤k)∧Drawn0 w w')
  case atStart=>exact ⟨(0),(by first|rfl|(simp;done)|(simp [*];done)),H',⟨Nat.le_refl _⟩,by repeat (first|exact Drawn0.refl _|apply Drawn0.step)⟩
  case round=>
   clear H';(try clear c2);(try clear c2b0);(try clear c2b1);(try clear p2);obtain ⟨x9_1,rfl,HA,HK1,⟨m1,rfl⟩⟩:=hrel;cases gk with
   | zero=>exact absurd HA.out (by simp [quote_Name.l0])
   | succ k1=>
    have H:=HA.out;clear HA;simp only [quote_Name.l0] at H;by_cases c3:x9_1 < (a0.size:Int)
    ·rw [if_pos c3] at H;have c3b0:decide (x9_1 < (a0.size:Int))=true:=decide_eq_true c3;clear c3;by_cases c4:0≤x9_1
     ·rw [if_pos c4] at H;have c4b0:decide (0≤x9_1)=true:=decide_eq_true c4;clear c4;by_cases c5:x9_1 < (a0.size:Int)
      ·rw [if_pos c5] at H;have c5b0:decide (x9_1 < (a0.size:Int))=true:=decide_eq_true c5;clear c5;have HC7:=Aside0.mk H;clear H;have p6:0≤(x9_1:Int):=of_decide_eq_true (by assumption);have q6:x9_1 < (a0.size:Int):=of_decide_eq_true (by assumption);have hx6:=bt_at a0 x9_1;replace p6:=eq_true p6;replace q6:=eq_true q6;(go_upto_region 8 with (fail));go_cut [15] (fun v15 wc=>∃ (kq:Nat) (x15_6:Bool),v15 = .bool x15_6∧Aside0 (quote_Name.j1 kq a0 x9_1 (bt a0 x9_1) (a0.size:Int) x9_1 x15_6=some r)∧Aside0 (kq≤k1)∧Drawn0 w wc)
       case first=>
        have H:=HC7.out;clear HC7;by_cases c8:(bt a0 x9_1) ≥ 97
        ·rw [if_pos c8] at H;have c8b0:decide (97≤(bt a0 x9_1))=true:=decide_eq_true c8;clear c8
         (first|rw [c8b0]|(simp only [i64_w,i32_w];rw [c8b0])|skip)
         have H':=Aside0.mk H;clear H;go_wp2;go_meet
         case rel=>exact ⟨_,(decide ((bt a0 x9_1)≤122)),(by first|rfl|(simp;done)|(simp [*];done)),H',⟨by have:=HK1.out;first|omega|exact Nat.le_refl _⟩,by repeat (first|exact Drawn0.refl _|apply Drawn0.step)⟩
        ·rw [if_neg c8] at H;have c8b0:decide (97≤(bt a0 x9_1))=false:=decide_eq_false c8;clear c8
         (first|rw [c8b0]|(simp only [i64_w,i32_w];rw [c8b0])|skip)
         have H':=Aside0.mk H;clear H;go_wp2;go_meet
         case rel=>exact ⟨_,(false),(by first|rfl|(simp;done)|(simp [*];done)),H',⟨by have:=HK1.out;first|omega|exact Nat.le_refl _⟩,by repeat (first|exact Drawn0.refl _|apply Drawn0.step)⟩
       case rest=>
        clear HC7;(try clear c2);(try clear c2b0);(try clear c2b1);(try clear p2);(try clear c3);(try clear c3b0);(try clear c4);(try clear c4b0);(try clear c5);(try clear c5b0);(try clear c6);(try clear p6);(try clear q6);(try clear hx6);(try clear c8);(try clear c8b0);(try clear p2);(try clear p6);(try clear q6);obtain ⟨kq,x15_6,rfl,HA,HJ6,⟨mc6,rfl⟩⟩:=hcut;cases kq with
        | zero=>exact absurd HA.out (by simp [quote_Name.j1])
        | succ kj6=>
         have H:=HA.out;clear HA;simp only [quote_Name.j1] at H;have HC9:=Aside0.mk H;clear H;go_upto_if 15 with (fail)
         go_cut [15] (fun v15 wc=>∃ (kq:Nat) (x15_8:Bool),v15 = .bool x15_8∧Aside0 (quote_Name.j2 kq a0 x9_1 (bt a0 x9_1) (a0.size:Int) x9_1 x15_8=some r)∧Aside0 (kq≤kj6)∧Drawn0 w wc)
         case first=>
          have H:=HC9.out;clear HC9;by_cases c10:x15_6=true
          ·subst c10;(have H1:(quote_Name.j2 kj6 a0 x9_1 (bt a0 x9_1) (a0.size:Int) x9_1 true)=some r:=by rw [if_pos rfl] at H;exact H);clear H;have H:=H1;clear H1;have H':=Aside0.mk H;clear H;go_wp2;go_meet
           case rel=>exact ⟨_,(true),(by first|rfl|(simp;done)|(simp [*];done)),H',⟨by have:=HK1.out;have:=HJ6.out;first|omega|exact Nat.le_refl _⟩,by repeat (first|exact Drawn0.refl _|apply Drawn0.step)⟩
          ·replace c10:=Bool.eq_false_iff.mpr c10;subst c10;(have H1:(if (bt a0 x9_1) ≥ 65 then (if (bt a0 x9_1)≤90 then (quote_Name.j2 kj6 a0 x9_1 (bt a0 x9_1) (a0.size:Int) x9_1 (decide ((bt a0 x9_1)≤90))) else (quote_Name.j2 kj6 a0 x9_1 (bt a0 x9_1) (a0.size:Int) x9_1 ((bt a0 x9_1) == 95))) else (quote_Name.j2 kj6 a0 x9_1 (bt a0 x9_1) (a0.size:Int) x9_1 ((bt a0 x9_1) == 95)))=some r:=by rw [if_neg (show ¬ (false=true) by decide)] at H;exact H);clear H;have H:=H1;clear H1;by_cases c11:(bt a0 x9_1) ≥ 65
           ·rw [if_pos c11] at H;have c11b0:decide (65≤(bt a0 x9_1))=true:=decide_eq_true c11;clear c11
            (first|rw [c11b0]|(simp only [i64_w,i32_w];rw [c11b0])|skip)
            by_cases c12:(bt a0 x9_1)≤90
            ·rw [if_pos c12] at H;have c12b0:decide ((bt a0 x9_1)≤90)=true:=decide_eq_true c12;clear c12;have H':=Aside0.mk H;clear H;go_wp2;go_meet
             case rel=>exact ⟨_,(decide ((bt a0 x9_1)≤90)),(by first|rfl|(simp;done)|(simp [*];done)),H',⟨by have:=HK1.out;have:=HJ6.out;first|omega|exact Nat.le_refl _⟩,by repeat (first|exact Drawn0.refl _|apply Drawn0.step)⟩
            ·rw [if_neg c12] at H;have c12b0:decide ((bt a0 x9_1)≤90)=false:=decide_eq_false c12;clear c12;have H':=Aside0.mk H;clear H;go_wp2;go_meet
             case rel=>exact ⟨_,(((bt a0 x9_1) == 95)),(by first|rfl|(simp;done)|(simp [*];done)),H',⟨by have:=HK1.out;have:=HJ6.out;first|omega|exact Nat.le_refl _⟩,by repeat (first|exact Drawn0.refl _|apply Drawn0.step)⟩
           ·rw [if_neg c11] at H;have c11b0:decide (65≤(bt a0 x9_1))=false:=decide_eq_false c11;clear c11
            (first|rw [c11b0]|(simp only [i64_w,i32_w];rw [c11b0])|skip)
            have H':=Aside0.mk H;clear H;go_wp2;go_meet
            case rel=>exact ⟨_,(((bt a0 x9_1) == 95)),(by first|rfl|(simp;done)|(simp [*];done)),H',⟨by have:=HK1.out;have:=HJ6.out;first|omega|exact Nat.le_refl _⟩,by repeat (first|exact Drawn0.refl _|apply Drawn0.step)⟩
         case rest=>
          clear HC9;(try clear c1);(try clear c2);(try clear c2b0);(try clear c2b1);(try clear p2);(try clear c3);(try clear c3b0);(try clear c4);(try clear c4b0);(try clear c5);(try clear c5b0);(try clear c6);(try clear p6);(try clear q6);(try clear hx6);(try clear c8);(try clear c8b0);(try clear c10);(try clear c11);(try clear c11b0);(try clear c12);(try clear c12b0);(try clear p2);(try clear p6);(try clear q6);obtain ⟨kq,x15_8,rfl,HA,HJ8,⟨mc8,rfl⟩⟩:=hcut;cases kq with
          | zero=>exact absurd HA.out (by simp [quote_Name.j2])
          | succ kj8=>
           have H:=HA.out;clear HA;simp only [quote_Name.j2] at H;by_cases c13:x15_8=true
           ·subst c13;(have H1:(quote_Name.l0 kj8 a0 (a0.size:Int) (wrap64 (x9_1+1)))=some r:=by rw [if_pos rfl] at H;exact H);clear H;have H:=H1;clear H1;have H':=Aside0.mk H;clear H;go_wp2;go_roundg kj8
            case measure=>have:=HK1.out;have:=HJ6.out;have:=HJ8.out;omega
            case rel=>exact ⟨(wrap64 (x9_1+1)),(by first|rfl|(simp;done)|(simp [*];done)),H',⟨by have:=HK1.out;have:=HJ6.out;have:=HJ8.out;omega⟩,by repeat (first|exact Drawn0.refl _|apply Drawn0.step)⟩
           ·replace c13:=Bool.eq_false_iff.mpr c13;subst c13;(have H1:(if x9_1 > 0 then (if (bt a0 x9_1) ≥ 48 then (if (bt a0 x9_1)≤57 then (quote_Name.l0 kj8 a0 (a0.size:Int) (wrap64 (x9_1+1))) else (some false)) else (some false)) else (some false))=some r:=by rw [if_neg (show ¬ (false=true) by decide)] at H;exact H);clear H;have H:=H1;clear H1;by_cases c14:x9_1 > 0
            ·rw [if_pos c14] at H;have c14b0:decide (0 < x9_1)=true:=decide_eq_true c14;clear c14;by_cases c15:(bt a0 x9_1) ≥ 48
             ·rw [if_pos c15] at H;have c15b0:decide (48≤(bt a0 x9_1))=true:=decide_eq_true c15;clear c15;by_cases c16:(bt a0 x9_1)≤57
              ·rw [if_pos c16] at H;have c16b0:decide ((bt a0 x9_1)≤57)=true:=decide_eq_true c16;clear c16;have H':=Aside0.mk H;clear H;go_wp2;go_roundg kj8
               case measure=>have:=HK1.out;have:=HJ6.out;have:=HJ8.out;omega
               case rel=>exact ⟨(wrap64 (x9_1+1)),(by first|rfl|(simp;done)|(simp [*];done)),H',⟨by have:=HK1.out;have:=HJ6.out;have:=HJ8.out;omega⟩,by repeat (first|exact Drawn0.refl _|apply Drawn0.step)⟩
              ·rw [if_neg c16] at H;have c16b0:decide ((bt a0 x9_1)≤57)=false:=decide_eq_false c16;clear c16;obtain rfl:=Option.some.inj H;go_wp2;go_ret;exact ⟨by first|rfl|(simp;done)|(simp [*];done),by repeat (first|exact Drawn0.refl _|apply Drawn0.step)⟩
             ·rw [if_neg c15] at H;have c15b0:decide (48≤(bt a0 x9_1))=false:=decide_eq_false c15;clear c15;obtain rfl:=Option.some.inj H;go_wp2;go_ret;exact ⟨by first|rfl|(simp;done)|(simp [*];done),by repeat (first|exact Drawn0.refl _|apply Drawn0.step)⟩
            ·rw [if_neg c14] at H;have c14b0:decide (0 < x9_1)=false:=decide_eq_false c14;clear c14;obtain rfl:=Option.some.inj H;go_wp2;go_ret;exact ⟨by first|rfl|(simp;done)|(simp [*];done),by repeat (first|exact Drawn0.refl _|apply Drawn0.step)⟩
      ·rw [if_neg c5] at H;exact absurd H (by simp)
     ·rw [if_neg c4] at H;exact absurd H (by simp)
    ·rw [if_neg c3] at H;have c3b0:decide (x9_1 < (a0.size:Int))=false:=decide_eq_false c3;clear c3;obtain rfl:=Option.some.inj H;go_wp2;go_ret;exact ⟨by first|rfl|(simp;done)|(simp [*];done),by repeat (first|exact Drawn0.refl _|apply Drawn0.step)⟩
def route_end.f (a0:Int) (a1:Int):Option (ByteArray):=if a0=a1 then (some (⟨#[]⟩:ByteArray)) else ((num_Digits.f a0).bind fun t110=>(some t110))
set_option maxHeartbeats 8000000 in
set_option maxRecDepth 100000 in
theorem route_end.calls (a0:Int) (a1:Int) (r:ByteArray) (w:World) (h:route_end.f a0 a1=some r) :
  Calls Tryd.prog 69 #[.int .i64 a0,.int .i64 a1] w fun e w'=>e = .returned (.string r)∧Below w.heap.size w w':=by
 have HB:=Aside0.mk (Below.refl w.heap.size w);have H:(if a0=a1 then (some (⟨#[]⟩:ByteArray)) else ((num_Digits.f a0).bind fun t110=>(some t110)))=some r:=h;clear h;by_cases c3:a0=a1
 ·rw [if_pos c3] at H;have c3b0:(a0 == a1)=true:=beq_iff_eq.mpr c3;have c3b1:(a0 != a1)=false:=bne_eq_false_iff_eq.mpr c3;clear c3;obtain rfl:=Option.some.inj H;(go_enter Tryd.func69,Tryd.ntmps69);go_wp2;go_ret;exact ⟨by first|rfl|(simp [errW_none,errW_some] <;> rfl)|(simp [*,errW_none,errW_some] <;> rfl),bw HB.out⟩
 ·rw [if_neg c3] at H;have c3b0:(a0 == a1)=false:=beq_eq_false_iff_ne.mpr c3;have c3b1:(a0 != a1)=true:=bne_iff_ne.mpr c3;replace H:=Option.bind_eq_some_iff.mp H;obtain ⟨t110,A40,H⟩:=H;replace H:(some t110)=some r:=H;have A4:=Aside0.mk A40;clear A40;obtain rfl:=Option.some.inj H;(go_enter Tryd.func69,Tryd.ntmps69);go_wp2_with (first|((with_reducible refine gate_callee (f:=57) rfl ?_);refine goesL_ (some 9) rfl rfl Tryd.func57 (by kernel_rfl) rfl #[.int .i64 a0] rfl (by (try simp only [List.map_toArray,List.map_cons,List.map_nil]);first|done|rfl|(simp only [List.length_drop,List.length_take];rfl)) ?_;(with_reducible refine (num_Digits.calls a0 t110 _ A4.out).mono ?_);rintro e w5 ⟨rfl,hb⟩;refine ⟨_,rfl,?_⟩;have n0_:=Aside0.mk (below_step (bw HB.out) hb);clear HB;have HB:=n0_;clear n0_;(try clear hb);(try clear hb2);(try clear hk);(try clear hi)));go_ret;exact ⟨by first|rfl|(simp [errW_none,errW_some] <;> rfl)|(simp [*,errW_none,errW_some] <;> rfl),bw HB.out⟩
end Go.Proofs.YtkbjblhompkdkaaDoor.PB
namespace Go.Proofs.YtkbjblhompkdkaaDoor.LexRow
open Go.ChangeShapes Go.WideShapes Go.Deep Go.ChangeAt Go.RowKit Go.Proofs.YtkbjblhompkdkaaDoor.PA Go.Proofs.YtkbjblhompkdkaaDoor.PB Go.Proofs.YtkbjblhompkdkaaDoorW.PrintWords Go.Proofs.YtkbjblhompkdkaaDoorW.PrintLast
set_option linter.unusedVariables false
theorem C_segs {w:World} {a:Addr} {len:Nat} {l:List S83} (hl:l.length=len) (hm:len≤maxLen)
  (hc:∀ j x,l[j]? = some x→w.cell? (a.add (j * 5+0))=some (.int .i64 x.f0)∧w.cell? (a.add (j * 5+1))=some (.int .i64 x.f1)∧w.cell? (a.add (j * 5+2))=some (.int .i64 x.f2)∧w.cell? (a.add (j * 5+3))=some (.int .i64 x.f3)∧w.cell? (a.add (j * 5+4))=some (.string x.f4)) :
  Kd.C k83 w (some a) len l:=by
 refine ⟨hl,Nat.le_trans hm (by decide),fun _=>⟨a,rfl,fun j p hj=>⟨_,rfl,k83_mk w p,fun i u hu=>?_⟩⟩⟩;obtain ⟨h0,h1,h2,h3,h4⟩:=hc j p hj;match i,hu with
 | 0,hu=>obtain rfl:=Option.some.inj hu;exact h0
 | 1,hu=>obtain rfl:=Option.some.inj hu;exact h1
 | 2,hu=>obtain rfl:=Option.some.inj hu;exact h2
 | 3,hu=>obtain rfl:=Option.some.inj hu;exact h3
 | 4,hu=>obtain rfl:=Option.some.inj hu;exact h4
 | n+5,hu=>simp at hu
theorem open_segs {H:Type} {enc:TypeId × Value→H} {W:World} {base:Nat} {spare:Nat→Bool} {held:Bool} {fuel:Nat} {a:Option Addr} {len cap:Nat} {x:DataW H × List MemPlace}
  (h:DataW.trod enc Tryd.prog W base spare held fuel 50 (Value.slice a len cap).cells.toList=some x) :
  ∃ l:List S83,len=l.length∧Kd.C k83 W a l.length l∧l.length≤cap∧∀ y ∈ l,-9223372036854775808≤y.f0∧y.f0≤9223372036854775807 ∧ -9223372036854775808≤y.f1∧y.f1≤9223372036854775807 ∧ -9223372036854775808≤y.f2∧y.f2≤9223372036854775807 ∧ -9223372036854775808≤y.f3∧y.f3≤9223372036854775807:=by
 rcases open_fields Tryd.underlying50 Tryd.underlying83 (by kernel_rfl) (by kernel_rfl) h with hcs|⟨ad,len',cap',hcs,hl,hm,hf⟩
 ·simp [Value.cells] at hcs;obtain ⟨rfl,rfl,rfl⟩:=hcs;exact ⟨[],rfl,Kd.C_nil _ _,Nat.le_refl _,by simp⟩
 ·simp [Value.cells] at hcs;obtain ⟨rfl,rfl,rfl⟩:=hcs;obtain ⟨l,hll,hq⟩:=choose_list (Q:=fun j (y:S83)=>(W.cell? (ad.add (j * 5+0))=some (.int .i64 y.f0)∧W.cell? (ad.add (j * 5+1))=some (.int .i64 y.f1)∧W.cell? (ad.add (j * 5+2))=some (.int .i64 y.f2)∧W.cell? (ad.add (j * 5+3))=some (.int .i64 y.f3)∧W.cell? (ad.add (j * 5+4))=some (.string y.f4))∧(-9223372036854775808≤y.f0∧y.f0≤9223372036854775807 ∧ -9223372036854775808≤y.f1∧y.f1≤9223372036854775807 ∧ -9223372036854775808≤y.f2∧y.f2≤9223372036854775807 ∧ -9223372036854775808≤y.f3∧y.f3≤9223372036854775807)) _ (fun i hi=>by
   obtain ⟨n,hn⟩:=hf i hi;obtain ⟨v0,y0,c0,t0⟩:=hn 0 _ rfl;obtain ⟨v1,y1,c1,t1⟩:=hn 1 _ rfl;obtain ⟨v2,y2,c2,t2⟩:=hn 2 _ rfl;obtain ⟨v3,y3,c3,t3⟩:=hn 3 _ rfl;obtain ⟨v4,y4,c4,t4⟩:=hn 4 _ rfl;obtain ⟨n0,e0,-,w0⟩:=DataW.trod_int Tryd.underlying3 t0;obtain ⟨n1,e1,-,w1⟩:=DataW.trod_int Tryd.underlying3 t1;obtain ⟨n2,e2,-,w2⟩:=DataW.trod_int Tryd.underlying3 t2;obtain ⟨n3,e3,-,w3⟩:=DataW.trod_int Tryd.underlying3 t3;obtain ⟨s4,e4,-⟩:=DataW.trod_string Tryd.underlying9 t4;obtain rfl:=List.head_eq_of_cons_eq e0;obtain rfl:=List.head_eq_of_cons_eq e1;obtain rfl:=List.head_eq_of_cons_eq e2;obtain rfl:=List.head_eq_of_cons_eq e3;obtain rfl:=List.head_eq_of_cons_eq e4;exact ⟨⟨n0,n1,n2,n3,s4⟩,⟨c0,c1,c2,c3,c4⟩,(bounds_i64 w0).1,(bounds_i64 w0).2,(bounds_i64 w1).1,(bounds_i64 w1).2,(bounds_i64 w2).1,(bounds_i64 w2).2,bounds_i64 w3⟩)
  subst hll;exact ⟨l,rfl,C_segs rfl (Nat.le_trans hl hm) (fun j y hj=>(hq j y hj).1),hl,fun y hy=>by
   obtain ⟨j,hj,e⟩:=List.getElem_of_mem hy;exact (hq j y (by rw [List.getElem?_eq_getElem hj,e])).2⟩
end Go.Proofs.YtkbjblhompkdkaaDoor.LexRow
namespace Go.Proofs.YtkbjblhompkdkaaDoor.Pure
open Go.Proofs.YtkbjblhompkdkaaDoor
def reprT (t:Tok):List Int:=if t.kind=1 ∨ t.kind=2 then t.text else if t.kind=3 then digL t.n else if t.kind=4 then quoteL t.text else []
def tailP (ts:List Tok):List Int:=ts.flatMap fun t=>32 :: reprT t
def printS:List Tok→List Int
 | []=>[]
 | t :: ts=>reprT t++tailP ts
def Stops (r:List Int):Prop:=∀ c s,r=c :: s→c=32
theorem tailP_cons (t:Tok) (ts:List Tok):tailP (t :: ts) = [32]++(reprT t++tailP ts):=by simp [tailP]
def InB (l:List Int):Prop:=∀ x ∈ l,0≤x∧x≤255
theorem signs_again:∀ x ∈ signsL,signAt x=some x∧∀ c,x.head? = some c→¬ c=34∧¬ isLet c∧¬ (c=45 ∨ isDig c)∧blank c=false:=by
 (have h:(signsL.all fun x=>decide (signAt x=some x) && (match x with|[]=>true|c :: _=>decide (¬ c=34∧¬ isLet c∧¬ (c=45 ∨ isDig c)∧blank c=false)))=true:=by decide +kernel);intro x hx;have h1:=List.all_eq_true.1 h x hx;simp only [Bool.and_eq_true,decide_eq_true_eq] at h1;refine ⟨h1.1,fun c hc=>?_⟩;cases x with
 | nil=>simp at hc
 | cons d r=>
  (obtain rfl:d=c:=by simpa using hc);exact of_decide_eq_true h1.2
theorem signAt_blank (l r:List Int) (hl:∀ x ∈ l,x ≠ 32):signAt (l++32 :: r)=signAt l:=by
 unfold signAt;(have h32:∀ x ∈ signsL,∀ y ∈ x,y ≠ 32:=by decide);have key:∀ x ∈ signsL,x.isPrefixOf (l++32 :: r)=x.isPrefixOf l:=by
  intro x hx;have hx2:=h32 x hx;clear hx;revert hl;induction x generalizing l with
  | nil=>intro hl;simp
  | cons a x ih=>
   intro hl;cases l with
   | nil => 
    have:=hx2 a (by simp);simp [List.isPrefixOf,this]
   | cons b l=>
    simp only [List.cons_append,List.isPrefixOf];rw [ih l (fun y hy=>hx2 y (by simp [hy])) (fun y hy=>hl y (by simp [hy]))]
 have:∀ L:List (List Int),(∀ x ∈ L,x ∈ signsL)→L.find? (fun x=>x.isPrefixOf (l++32 :: r))=L.find? (fun x=>x.isPrefixOf l):=by
  intro L;induction L with
  | nil=>intro _;rfl
  | cons x L ih=>
   intro h;simp only [List.find?_cons];rw [key x (h x (by simp)),ih (fun y hy=>h y (by simp [hy]))]
 exact this signsL (fun x hx=>hx)
theorem signAt_stops (x r:List Int) (hx:x ∈ signsL) (hr:Stops r):signAt (x++r)=some x:=by
 (have h32:∀ x ∈ signsL,∀ y ∈ x,y ≠ 32:=by decide);cases r with
 | nil=>rw [List.append_nil];exact (signs_again x hx).1
 | cons c s=>
  obtain rfl:=hr c s rfl;rw [signAt_blank x s (h32 x hx)];exact (signs_again x hx).1
theorem take_lead (p:Int→Bool) (l r:List Int) (hl:∀ x ∈ l,p x=true) (hr:∀ c s,r=c :: s→p c=false):(l++r).take (lead p (l++r))=l:=by
 rw [lead_app p l r hl hr];simp
theorem tok_again {p:Nat} {l:List Int} {t:Tok} (hb:InB l) (h:tokAt p l = .inl t) (h0:t.kind ≠ 0) :
  (∃ c r,reprT t=c :: r∧blank c=false)∧(reprT t).length≤4 * (t.end_ - t.at_)∧InB (reprT t) ∧
  ∀ (q:Nat) (r:List Int),Stops r→tokAt q (reprT t++r) = .inl ⟨t.kind,q,q+(reprT t).length,t.n,t.text⟩:=by
 match l with
 | []=>simp only [tokAt,Sum.inl.injEq] at h;subst h;simp at h0
 | c :: r=>
  have hr1:=lead_le inName r;have hr2:=lead_le digB r;have hub:=unquoteL_bytes (c :: r) hb;have hul:=unquoteL_len (c :: r);simp only [tokAt] at h;split at h
  ·split at h
   ·rename_i h1 h2;simp only [Sum.inl.injEq] at h;subst h;have hl2:=hul.2 h2;generalize (unquoteL (c :: r)).1=x at *
    (have e:reprT ⟨4,p,p+(unquoteL (c :: r)).2.1,0,x⟩=quoteL x:=by simp [reprT]);rw [e];have hq:=qbody_length x;refine ⟨⟨34,_,rfl,by decide⟩,by simp [quoteL];omega,quoteL_bytes x hub.1,fun q r' hr'=>?_⟩;have hx:=unquote_quote x r' hub.1;(have e2:quoteL x++r'=34 :: (qbody x++[34]++r'):=by simp [quoteL]);rw [e2] at hx ⊢;simp only [tokAt];rw [if_pos trivial,if_pos (by rw [hx]),hx]
   ·simp at h
  ·rename_i h34;split at h
   ·rename_i hlet;simp only [Sum.inl.injEq] at h;subst h;(have e:∀ a b,reprT ⟨2,a,b,0,c :: r.take (lead inName r)⟩=c :: r.take (lead inName r):=by intro a b;simp [reprT]);rw [e];have hbl:blank c=false:=by
     unfold isLet at hlet;simp [blank];omega
    refine ⟨⟨c,_,rfl,hbl⟩,by simp;omega,fun x hx=>?_,fun q r' hr'=>?_⟩
    ·rcases List.mem_cons.1 hx with rfl|hx
     ·exact hb _ (by simp)
     ·exact hb x (by simp [List.mem_of_mem_take hx])
    ·simp only [List.cons_append,tokAt];rw [if_neg h34,if_pos hlet];have hs:∀ d s,r'=d :: s→inName d=false:=by
      intro d s e;have:=hr' d s e;subst this;decide
     have hle:=lead_app inName (r.take (lead inName r)) r' (lead_all inName r) hs;have htk:=take_lead inName (r.take (lead inName r)) r' (lead_all inName r) hs;rw [htk,hle];simp only [List.length_cons];rw [show q+1+(r.take (lead inName r)).length=q+((r.take (lead inName r)).length+1) by omega]
   ·rename_i hlet;split at h
    ·rename_i hdig;split at h
     ·rename_i h2;simp only [Sum.inl.injEq] at h;subst h;have hback:=digL_parseS _ h2;have hrange:=parseS_range (c :: r.take (lead digB r));have hround:=parseS_digL _ hrange.1 hrange.2;(have e:∀ a b n,reprT ⟨3,a,b,n,[]⟩=digL n:=by intro a b n;simp [reprT]);rw [e,hback];have hbl:blank c=false:=by
       unfold isDig at hdig;simp [blank];omega
      refine ⟨⟨c,_,rfl,hbl⟩,by simp;omega,fun x hx=>?_,fun q r' hr'=>?_⟩
      ·rcases List.mem_cons.1 hx with rfl|hx
       ·exact hb _ (by simp)
       ·exact hb x (by simp [List.mem_of_mem_take hx])
      ·simp only [List.cons_append,tokAt];rw [if_neg h34,if_neg hlet,if_pos hdig];have hs:∀ d s,r'=d :: s→digB d=false:=by
        intro d s e;have:=hr' d s e;subst this;decide
       have hle:=lead_app digB (r.take (lead digB r)) r' (lead_all digB r) hs;have htk:=take_lead digB (r.take (lead digB r)) r' (lead_all digB r) hs;rw [htk,hle,if_pos h2];simp only [List.length_cons];rw [show q+1+(r.take (lead digB r)).length=q+((r.take (lead digB r)).length+1) by omega]
     ·simp at h
    ·split at h
     ·rename_i x hx;obtain ⟨hp,hm⟩:=signAt_len hx;have hpos:=signs_pos x hm;have hag:=signs_again x hm;simp only [Sum.inl.injEq] at h;subst h;(have e:∀ a b,reprT ⟨1,a,b,0,x⟩=x:=by intro a b;simp [reprT]);rw [e];cases x with
      | nil=>simp at hpos
      | cons d y=>
       obtain ⟨g1,g2,g3,g4⟩:=hag.2 d rfl;refine ⟨⟨d,y,rfl,g4⟩,by simp;omega,fun z hz=>?_,fun q r' hr'=>?_⟩
       ·have hsub:=(List.isPrefixOf_iff_prefix.1 hp).subset;exact hb z (hsub hz)
       ·have hs:=signAt_stops (d :: y) r' hm hr';simp only [List.cons_append,tokAt] at hs ⊢;rw [if_neg g1,if_neg g2,if_neg g3,hs]
     ·simp at h
inductive Good (l:List Int):Tok→Prop
 | mk (p q:Nat) (t:Tok) (h:tokAt p (l.drop q) = .inl t) (h0:t.kind ≠ 0):Good l t
theorem InB.drop {l:List Int} (h:InB l) (q:Nat):InB (l.drop q):=fun x hx=>h x (List.mem_of_mem_drop hx)
theorem allS_good (l:List Int) (ts:List Tok):∀ a,a≤l.length→allS l a = .inl ts→∀ t ∈ ts,Good l t:=by
 induction ts with
 | nil=>intro a ha h t ht;simp at ht
 | cons u ts ih=>
  intro a ha h;rw [allS_step l ha] at h;cases hn:nextS l a with
  | inr e=>rw [hn] at h;simp at h
  | inl t=>
   have hk:=nextS_ok ha hn;rw [hn] at h;simp only [] at h;split at h
   ·simp at h
   ·rename_i h0;cases hm:allS l t.end_ with
    | inr e=>rw [hm] at h;simp at h
    | inl vs=>
     rw [hm] at h;simp only [Sum.inl.injEq,List.cons.injEq] at h;obtain ⟨rfl,rfl⟩:=h;intro v hv;rcases List.mem_cons.1 hv with rfl|hv
     ·exact Good.mk _ _ _ hn h0
     ·exact ih _ hk.2.1 hm v hv
theorem print_bytes {l:List Int} (hl:InB l) (ts:List Tok) (hg:∀ t ∈ ts,Good l t):InB (printS ts):=by
 have ht:∀ t ∈ ts,InB (reprT t):=by
  intro t h;obtain ⟨p,q,t,h1,h0⟩:=hg t h;exact (tok_again (hl.drop q) h1 h0).2.2.1
 have htl:∀ us:List Tok,(∀ t ∈ us,InB (reprT t))→InB (tailP us):=by
  intro us hu x hx;simp only [tailP,List.mem_flatMap] at hx;obtain ⟨t,h1,h2⟩:=hx;rcases List.mem_cons.1 h2 with rfl|h2
  ·omega
  ·exact hu t h1 x h2
 cases ts with
 | nil=>intro x hx;simp [printS] at hx
 | cons t ts=>
  intro x hx;rcases List.mem_append.1 hx with hx|hx
  ·exact ht t (by simp) x hx
  ·exact htl ts (fun u hu=>ht u (by simp [hu])) x hx
end Go.Proofs.YtkbjblhompkdkaaDoor.Pure
namespace Go.Proofs.YtkbjblhompkdkaaDoor.Pure
open Go.Proofs.YtkbjblhompkdkaaDoor
def tok0:Tok:=⟨0,0,0,0,[]⟩
abbrev St:=Nat ⊕ (Nat × Int)
def nx (l:List Int):St→Tok × St
 | .inr e=>(tok0,.inr e)
 | .inl a=>match nextS l a with
  | .inl t=>(t,.inl t.end_)
  | .inr e=>(tok0,.inr e)
def badE (l:List Int) (t:Tok):Nat × Int:=if t.kind=0 then (l.length,10) else (t.at_,2)
def bd (l:List Int) (t:Tok):St→St
 | .inr e=>.inr e
 | .inl _=>.inr (badE l t)
def isS (t:Tok) (x:List Int):Bool:=decide (t.kind=1∧t.text=x)
def mustC (l x:List Int) (st:St):St:=if isS (nx l st).1 x=true then (nx l st).2 else bd l (nx l st).1 (nx l st).2
structure Seg where
 kind:Int
 n:Int
 lo:Int
 hi:Int
 text:List Int
def sliceC (l:List Int) (lo:Int) (st:St):Seg × St:=
 if (nx l st).1.kind=3 then (⟨2,0,lo,(nx l st).1.n,[]⟩,mustC l [93] (nx l st).2)
 else (⟨2,0,lo,9223372036854775807,[]⟩,if isS (nx l st).1 [93]=true then (nx l st).2 else bd l (nx l st).1 (nx l st).2)
def filtF:Nat→List Int→St→Int→List Tok→List Tok × St
 | 0,_,st,_,acc=>(acc,st)
 | f+1,l,st,n,acc=>
  match st with
  | .inr e=>(acc,.inr e)
  | .inl a=>
   if (nx l (.inl a)).1.kind=0 then (acc,bd l (nx l (.inl a)).1 (nx l (.inl a)).2)
   else if isS (nx l (.inl a)).1 [40]=true then filtF f l (nx l (.inl a)).2 (n+1) (acc++[(nx l (.inl a)).1])
   else if isS (nx l (.inl a)).1 [41]=true then
    if n - 1=0 then (acc,if acc.length=0 then bd l (nx l (.inl a)).1 (nx l (.inl a)).2 else (nx l (.inl a)).2)
    else filtF f l (nx l (.inl a)).2 (n - 1) (acc++[(nx l (.inl a)).1])
   else filtF f l (nx l (.inl a)).2 n (acc++[(nx l (.inl a)).1])
def room (l:List Int):St→Nat
 | .inl a=>l.length+1 - a
 | .inr _=>1
def filtC (l:List Int) (st:St) (n:Int) (acc:List Tok):List Tok × St:=filtF (room l st) l st n acc
def filterC (l:List Int) (st:St):Seg × St:=(⟨5,0,0,0,printS (filtC l (mustC l [40] st) 1 []).1⟩,(filtC l (mustC l [40] st) 1 []).2)
def bracketC (l:List Int) (st:St):Seg × St:=
 if (nx l st).1.kind=3 then
  if isS (nx l (nx l st).2).1 [58]=true then sliceC l (nx l st).1.n (nx l (nx l st).2).2
  else (⟨1,(nx l st).1.n,0,0,[]⟩,if isS (nx l (nx l st).2).1 [93]=true then (nx l (nx l st).2).2 else bd l (nx l (nx l st).2).1 (nx l (nx l st).2).2)
 else if isS (nx l st).1 [58]=true then sliceC l 0 (nx l st).2
 else if (nx l st).1.kind=4 then (⟨0,0,0,0,(nx l st).1.text⟩,mustC l [93] (nx l st).2)
 else if isS (nx l st).1 [42]=true then (⟨3,0,0,0,[]⟩,mustC l [93] (nx l st).2)
 else if isS (nx l st).1 [63]=true then ((filterC l (nx l st).2).1,mustC l [93] (filterC l (nx l st).2).2)
 else (⟨0,0,0,0,[]⟩,mustC l [93] (bd l (nx l st).1 (nx l st).2))
end Go.Proofs.YtkbjblhompkdkaaDoor.Pure
namespace Go.Proofs.YtkbjblhompkdkaaDoor
open Go.RowKit Go.Proofs.YtkbjblhompkdkaaDoor.PA Go.Proofs.YtkbjblhompkdkaaDoorW.PrintWords Go.Proofs.YtkbjblhompkdkaaDoorW.PrintLast
theorem follow_len {l:List Int} (ts:List Pure.Tok):∀ a,Pure.Follow l a ts→ts.length+a≤l.length:=by
 induction ts with
 | nil=>intro a h;have:=h.1;simp;exact this
 | cons t ts ih=>
  intro a h;obtain ⟨h1,h2,h3,_,h5⟩:=h;have:=ih t.end_ h5;simp;omega
theorem allR_ok {l:List Int} {ts:List Pure.Tok} (h:allR l = .inl ts):Pure.Follow l 0 ts∧ts.length≤l.length∧Pure.allS l 0 = .inl ts:=by
 unfold allR at h;split at h
 ·simp at h
 ·have hf:=Pure.allS_follow l ts 0 (Nat.zero_le _) h;exact ⟨hf,by have:=follow_len ts 0 hf;omega,h⟩
theorem tok_parts {p:Nat} {l:List Int} {t:Pure.Tok} (hb:Pure.InB l) (h:Pure.tokAt p l = .inl t):Pure.InB t.text∧t.text.length≤l.length ∧ -9223372036854775808≤t.n∧t.n≤9223372036854775807:=by
 match l with
 | []=>simp only [Pure.tokAt,Sum.inl.injEq] at h;subst h;simp [Pure.InB]
 | c :: r=>
  have hr1:=Pure.lead_le Pure.inName r;have hub:=Pure.unquoteL_bytes (c :: r) hb;simp only [Pure.tokAt] at h;split at h
  ·split at h
   ·simp only [Sum.inl.injEq] at h;subst h;exact ⟨hub.1,hub.2,by simp,by simp⟩
   ·simp at h
  ·split at h
   ·simp only [Sum.inl.injEq] at h;subst h;refine ⟨fun x hx=>?_,by simp;omega,by simp,by simp⟩;rcases List.mem_cons.1 hx with rfl|hx
    ·exact hb _ (by simp)
    ·exact hb x (by simp [List.mem_of_mem_take hx])
   ·split at h
    ·split at h
     ·simp only [Sum.inl.injEq] at h;subst h;have:=Pure.parseS_range (c :: r.take (Pure.lead Pure.digB r));exact ⟨fun x hx=>by simp at hx,by simp,this.1,this.2⟩
     ·simp at h
    ·split at h
     ·rename_i x hx;obtain ⟨hp,hm⟩:=Pure.signAt_len hx;have hpre:=List.isPrefixOf_iff_prefix.1 hp;simp only [Sum.inl.injEq] at h;subst h;exact ⟨fun z hz=>hb z (hpre.subset hz),hpre.length_le,by simp,by simp⟩
     ·simp at h
theorem toks_ok {l:List Int} (hb:Pure.InB l) {ts:List Pure.Tok} (h:Pure.allS l 0 = .inl ts):∀ t ∈ ts,Pure.InB t.text∧t.text.length≤l.length ∧ -9223372036854775808≤t.n∧t.n≤9223372036854775807:=by
 intro t ht;obtain ⟨p,q,t,h1,h0⟩:=Pure.allS_good l ts 0 (Nat.zero_le _) h t ht;obtain ⟨h2,h3,h4⟩:=tok_parts (hb.drop q) h1;exact ⟨h2,by simp at h3;omega,h4⟩
end Go.Proofs.YtkbjblhompkdkaaDoor
namespace Go.Proofs.YtkbjblhompkdkaaDoor
open Go.RowKit Go.Proofs.YtkbjblhompkdkaaDoor.PA Go.Proofs.YtkbjblhompkdkaaDoor.PB Go.Proofs.YtkbjblhompkdkaaDoorW.PrintWords Go.Proofs.YtkbjblhompkdkaaDoorW.PrintLast
set_option linter.unusedVariables false
set_option linter.unusedSimpArgs false
def RSt (w:World) (b:Nat) (s:ByteArray):Pure.St→Prop
 | .inl a=>a≤s.size∧w.heap[b]? = some (.cells #[.string s,.int .i64 (a:Int),.nilIface] 89 (0,0))
 | .inr (p,c)=>∃ (x:Int) (T:TypeId) (u:Value),w.heap[b]? = some (.cells #[.string s,.int .i64 x,.iface T u] 89 (0,0))∧Err w (.iface T u) [(p:Int)] (some c)
theorem RSt.lt {w:World} {b:Nat} {s:ByteArray} {st:Pure.St} (h:RSt w b s st):b < w.heap.size:=by
 cases st with
 | inl a=>exact blk_lt h.2
 | inr e=>obtain ⟨x,T,u,h1,-⟩:=h;exact blk_lt h1
theorem RSt.below {w w':World} {b:Nat} {s:ByteArray} {st:Pure.St} (h:RSt w b s st) (hb:Below w.heap.size w w'):RSt w' b s st:=by
 cases st with
 | inl a=>exact ⟨h.1,blk_below h.2 hb⟩
 | inr e=>obtain ⟨x,T,u,h1,h2⟩:=h;exact ⟨x,T,u,blk_below h1 hb,h2.below hb (Nat.le_refl _)⟩
def Step (w w':World) (b:Nat):Prop:=Below b w w'∧KeepBut w w' b none
theorem Step.of_below {w w':World} {b:Nat} (hb:Below w.heap.size w w') (h:b < w.heap.size):Step w w' b:=⟨hb.mono (Nat.le_of_lt h),KeepBut.of_below hb b none⟩
theorem Step.trans {w w1 w2:World} {b:Nat} (h:Step w w1 b) (k:Step w1 w2 b):Step w w2 b:=⟨Below.trans h.1 k.1,KeepBut.trans h.2 k.2 (.inl rfl)⟩
theorem Step.blk {w w':World} {b g:Nat} {o:Obj} (h:Step w w' b) (hb:w.heap[g]? = some o) (hg:g ≠ b):w'.heap[g]? = some o:=h.2.blk hb hg (by simp)
theorem Signs.step {w w':World} {b:Nat} (h:Signs w) (hb:Step w w' b) (hn:0 < b):Signs w':=fun i x hx=>(hb.1.cell (show 0 < b from hn)).trans (h i x hx)
theorem results_c {P:Program} {fn:Func} {p:Tmp} {ty:TypeId} (h:fn.results = #[.cell p ty]) (tmps:Array Value) (w:World) (g:Nat) (t:TypeId) (cs:Array Value) (fr:Nat × Nat) (d:TypeDesc)
  (hp:tmps.getD p undef = .pointer (some ⟨g,0,none⟩)) (hg:w.heap[g]? = some (.cells cs t fr))
  (hu:P.underlying ty=some d) (hd:(match d with|.struct _|.array _ _=>true|_=>false)=true) (hi:(P.info? ty).map (·.size)=some cs.size) :
  (results fn tmps).run P w = .ok (.agg cs) w:=by
 (have hp':tmps[p]?.getD undef = .pointer (some ⟨g,0,none⟩):=by simpa using hp);simp [results,h,hp',asAddr,run_loadVar_row w g t ty cs fr d hg hu hd hi]
set_option maxRecDepth 100000 in
set_option maxHeartbeats 4000000 in
theorem rnext_err (s:ByteArray) (b p:Nat) (c:Int) (w:World) (h:RSt w b s (.inr (p,c))) :
  Calls Tryd.prog 65 #[.pointer (some ⟨b,0,none⟩)] w fun e w'=>e = .returned (tokV Pure.tok0)∧RSt w' b s (.inr (p,c))∧Step w w' b:=by
 obtain ⟨x,T,u,hb,he⟩:=h;have HB:=Lib.hid hb;have HE:=Lib.hid he;have hbw:=below_alloc (Below.refl w.heap.size w) (.cells #[.int .i64 0,.int .i64 0,.int .i64 0,.int .i64 0,.string ⟨#[]⟩] 24);have k2:=(blk_cell (blk_below hb hbw) 2).trans (show _=some (.iface T u) from rfl);clear he;(go_enter Tryd.func65,Tryd.ntmps65);go_wp2;refine bodyPost_ret (results_c rfl _ _ w.heap.size 24 _ (0,0) _ rfl (blk_new w _) Tryd.underlying24 rfl (by kernel_rfl)) rfl ?_;exact ⟨rfl,⟨x,T,u,blk_below HB.out hbw,HE.out.below hbw (Nat.le_refl _)⟩,Step.of_below hbw (blk_lt HB.out)⟩
theorem far5 {W:World} {g k:Nat} {o:Obj} (x0 x1 x2 x3 x4:Value) (hk:k ≠ g) (h:W.heap[k]? = some o) :
  (((((W.setCell ⟨g,0,none⟩ x0).setCell ⟨g,1,none⟩ x1).setCell ⟨g,2,none⟩ x2).setCell ⟨g,3,none⟩ x3).setCell ⟨g,4,none⟩ x4).heap[k]? = some o:=by
 have far:∀ (W:World) (j:Nat) (v:Value),W.heap[k]? = some o→(W.setCell ⟨g,j,none⟩ v).heap[k]? = some o:=fun W j v h=>(Below.heap_setCell W ⟨g,j,none⟩ v k hk).trans h;exact far _ _ _ (far _ _ _ (far _ _ _ (far _ _ _ (far _ _ _ h))))
theorem Step.set5 {w W:World} {b g:Nat} (x0 x1 x2 x3 x4:Value) (h:Step w W b) (hb:b≤w.heap.size) (hg:w.heap.size≤g:=by exact Nat.le_refl _) :
  Step w (((((W.setCell ⟨g,0,none⟩ x0).setCell ⟨g,1,none⟩ x1).setCell ⟨g,2,none⟩ x2).setCell ⟨g,3,none⟩ x3).setCell ⟨g,4,none⟩ x4) b:=by
 have st:∀ (W:World) (j:Nat) (v:Value),Step w W b→Step w (W.setCell ⟨g,j,none⟩ v) b:=fun W j v h=>⟨h.1.setCell (Nat.le_trans hb hg) _,keep_far h.2 hg v⟩;exact st _ _ _ (st _ _ _ (st _ _ _ (st _ _ _ (st _ _ _ h))))
def NInv (w:World) (b:Nat) (s:ByteArray) (a:Nat) (w':World):Prop:=
 Below w.heap.size w w'∧w'.heap[b]? = some (.cells #[.string s,.int .i64 (a:Int),.nilIface] 89 (0,0))∧w'.heap[w.heap.size]? = some (.cells z24 24 (0,0))∧Signs w'
theorem NInv.step {w w1 w2:World} {b a:Nat} {s:ByteArray} (h:NInv w b s a w1) (hb:Below w1.heap.size w1 w2):NInv w b s a w2:=
 ⟨below_then h.1 h.1.size hb,blk_below h.2.1 hb,blk_below h.2.2.1 hb,h.2.2.2.below hb (Nat.le_refl _)⟩
theorem NInv.drew {w w1:World} {b a:Nat} {s:ByteArray} (h:NInv w b s a w1):NInv w b s a w1.drew:=⟨below_drew h.1,h.2.1,h.2.2.1,h.2.2.2⟩
theorem NInv.alloc {w w1:World} {b a:Nat} {s:ByteArray} (h:NInv w b s a w1) :
  NInv w b s a (w1.alloc (.cells #[.int .i64 0,.int .i64 0,.int .i64 0,.int .i64 0,.string ⟨#[]⟩] 24))∧(w1.alloc (.cells #[.int .i64 0,.int .i64 0,.int .i64 0,.int .i64 0,.string ⟨#[]⟩] 24)).heap[w1.heap.size]? = some (.cells #[.int .i64 0,.int .i64 0,.int .i64 0,.int .i64 0,.string ⟨#[]⟩] 24 (0,0))∧w.heap.size < w1.heap.size:=
 ⟨h.step (below_alloc (Below.refl _ _) _),blk_new _ _,blk_lt h.2.2.1⟩
theorem NInv.set5 {w w1:World} {b a g:Nat} {s:ByteArray} (x0 x1 x2 x3 x4:Value) (h:NInv w b s a w1) (hb:b < w.heap.size) (hs:0 < w.heap.size) (hg:w.heap.size < g) :
  NInv w b s a (((((w1.setCell ⟨g,0,none⟩ x0).setCell ⟨g,1,none⟩ x1).setCell ⟨g,2,none⟩ x2).setCell ⟨g,3,none⟩ x3).setCell ⟨g,4,none⟩ x4):=by
 have far:∀ (W:World) (k:Nat) (o:Obj) (j:Nat) (v:Value),k ≠ g→W.heap[k]? = some o→(W.setCell ⟨g,j,none⟩ v).heap[k]? = some o:=fun W k o j v hk h=>(Below.heap_setCell W ⟨g,j,none⟩ v k hk).trans h;refine ⟨below5 _ _ _ _ _ h.1 (Nat.le_of_lt hg),?_,?_,fun i x hx=>?_⟩
 ·exact far _ _ _ _ _ (by omega) (far _ _ _ _ _ (by omega) (far _ _ _ _ _ (by omega) (far _ _ _ _ _ (by omega) (far _ _ _ _ _ (by omega) h.2.1))))
 ·exact far _ _ _ _ _ (by omega) (far _ _ _ _ _ (by omega) (far _ _ _ _ _ (by omega) (far _ _ _ _ _ (by omega) (far _ _ _ _ _ (by omega) h.2.2.1))))
 ·(have hne:(0:Nat) ≠ g:=by omega);rw [cell_far _ _ _ _ hne,cell_far _ _ _ _ hne,cell_far _ _ _ _ hne,cell_far _ _ _ _ hne,cell_far _ _ _ _ hne];exact h.2.2.2 i x hx
theorem next_at {s:ByteArray} {a:Nat} (ha:a≤s.size):nextI (bytesOf s) (a:Int)=Pure.nextS (bytesOf s) a:=by
 unfold nextI;rw [if_neg (by rw [bytesOf_length];omega)];rfl
theorem next_tok (s:ByteArray) (a:Nat) (t:Pure.Tok) (hr:Pure.nextS (bytesOf s) a = .inl t) (ha:a≤s.size) (w:World) (hs:Signs w) (hsz:s.size≤140737488351232) :
  Calls Tryd.prog 16 #[.string s,.int .i64 (a:Int)] w fun e w'=>e = .returned (.tuple #[.agg #[.int .i64 t.kind,.int .i64 (t.at_:Int),.int .i64 (t.end_:Int),.int .i64 t.n,.string (strOfNums t.text)],.nilIface])∧Below w.heap.size w w':=by
 have h:=next_calls s (a:Int) w hs hsz;rw [next_at ha,hr] at h;exact h
theorem next_bad (s:ByteArray) (a p:Nat) (c:Int) (hr:Pure.nextS (bytesOf s) a = .inr (p,c)) (ha:a≤s.size) (w:World) (hs:Signs w) (hsz:s.size≤140737488351232) :
  Calls Tryd.prog 16 #[.string s,.int .i64 (a:Int)] w fun e w'=>∃ T u,e = .returned (.tuple #[.agg #[.int .i64 0,.int .i64 0,.int .i64 0,.int .i64 0,.string ⟨#[]⟩],.iface T u])∧Err w' (.iface T u) [(p:Int)] (some c)∧Below w.heap.size w w':=by
 have h:=next_calls s (a:Int) w hs hsz;rw [next_at ha,hr] at h;refine h.mono ?_;rintro e w' ⟨⟨v,rfl,he⟩,hb⟩;obtain ⟨T,x,rfl⟩:=he.iface (.inl (by simp));exact ⟨T,x,rfl,he,hb⟩
set_option maxRecDepth 100000 in
set_option maxHeartbeats 8000000 in
theorem rnext_tok (s:ByteArray) (b a:Nat) (t:Pure.Tok) (hr:Pure.nextS (bytesOf s) a = .inl t) (w:World) (hs:Signs w) (hsz:s.size≤140737488351232) (h:RSt w b s (.inl a)) :
  Calls Tryd.prog 65 #[.pointer (some ⟨b,0,none⟩)] w fun e w'=>e = .returned (tokV t)∧RSt w' b s (.inl t.end_)∧Step w w' b:=by
 obtain ⟨ha,hb⟩:=h;have HBL:=Lib.hid (blk_lt hb);have HSL:=Lib.hid hs.lt;have HRES:=Lib.hid hr;have hba:=below_alloc (Below.refl w.heap.size w) (.cells #[.int .i64 0,.int .i64 0,.int .i64 0,.int .i64 0,.string ⟨#[]⟩] 24);have NI0:=Lib.hid (show NInv w b s a (w.alloc (.cells #[.int .i64 0,.int .i64 0,.int .i64 0,.int .i64 0,.string ⟨#[]⟩] 24)) from ⟨hba,blk_below hb hba,blk_new w _,hs.below hba (Nat.le_refl _)⟩);have k2:=(blk_cell NI0.out.2.1 2).trans (show _=some .nilIface from rfl);clear hb hs hr hba;(go_enter Tryd.func65,Tryd.ntmps65);(go_upto_region 3 with (fail));clear k2;generalize (w.alloc (.cells #[.int .i64 0,.int .i64 0,.int .i64 0,.int .i64 0,.string ⟨#[]⟩] 24))=W0 at *
 refine start_ (n:=15) (S:=fun w'=>w'.cell? ⟨b,0,none⟩=some (.string s)∧w'.cell? ⟨b,1,none⟩=some (.int .i64 (a:Int))∧NInv w b s a w') (ds:=[]) #[false,false,false,false,false,false,false,false,false,false,false,false,false,false,false] (by kernel_rfl) rfl rfl ⟨(blk_cell NI0.out.2.1 0).trans rfl,(blk_cell NI0.out.2.1 1).trans rfl,NI0.out.drew⟩ (fun hHeld=>?_);refine pure_ (i:=0) (N:=some 12) (v:=?_) (a':=?_) #[true,false,false,false,false,false,false,false,false,false,false,false,false,false,false] rfl rfl (by kernel_rfl) (fun _ _ _ h=>h) (Or.inl ⟨by rfl,?_⟩) ?_ ?_;rotate_left
 ·intro w';go_simp;with_reducible rfl
 rotate_left
 ·simp only [Act.put,List.setIfInBounds_toArray,List.set_cons_zero,List.set_cons_succ,i64_w,i32_w];rfl
 refine pure_ (i:=1) (N:=some 13) (v:=?_) (a':=?_) #[true,true,false,false,false,false,false,false,false,false,false,false,false,false,false] rfl rfl (by kernel_rfl) (fun _ _ _ h=>h) (Or.inl ⟨by rfl,?_⟩) ?_ ?_;rotate_left
 ·intro w';go_simp;with_reducible rfl
 rotate_left
 ·simp only [Act.put,List.setIfInBounds_toArray,List.set_cons_zero,List.set_cons_succ,i64_w,i32_w];rfl
 refine pure_ (i:=2) (N:=some 14) (v:=?_) (a':=?_) #[true,true,true,false,false,false,false,false,false,false,false,false,false,false,false] rfl rfl (by kernel_rfl) (fun _ _ _ h=>h) (Or.inl ⟨by rfl,?_⟩) ?_ ?_;rotate_left
 ·intro w';go_simp;with_reducible rfl
 rotate_left
 ·simp only [Act.put,List.setIfInBounds_toArray,List.set_cons_zero,List.set_cons_succ,i64_w,i32_w];rfl
 refine pure_ (i:=4) (N:=some 16) (v:=?_) (a':=?_) #[true,true,true,false,true,false,false,false,false,false,false,false,false,false,false] rfl rfl (by kernel_rfl) (fun _ _ _ h=>h) (Or.inl ⟨by rfl,?_⟩) ?_ ?_;rotate_left
 ·intro w';go_simp;with_reducible rfl
 rotate_left
 ·simp only [Act.put,List.setIfInBounds_toArray,List.set_cons_zero,List.set_cons_succ,i64_w,i32_w];rfl
 refine pure_ (i:=5) (N:=some 17) (v:=?_) (a':=?_) #[true,true,true,false,true,true,false,false,false,false,false,false,false,false,false] rfl rfl (by kernel_rfl) (fun _ _ _ h=>h) (Or.inl ⟨by rfl,?_⟩) ?_ ?_;rotate_left
 ·intro w';go_simp;with_reducible rfl
 rotate_left
 ·simp only [Act.put,List.setIfInBounds_toArray,List.set_cons_zero,List.set_cons_succ,i64_w,i32_w];rfl
 refine pure_ (i:=6) (N:=some 18) (v:=?_) (a':=?_) #[true,true,true,false,true,true,true,false,false,false,false,false,false,false,false] rfl rfl (by kernel_rfl) (fun _ _ _ h=>h) (Or.inl ⟨by rfl,?_⟩) ?_ ?_;rotate_left
 ·intro w';go_simp;with_reducible rfl
 rotate_left
 ·simp only [Act.put,List.setIfInBounds_toArray,List.set_cons_zero,List.set_cons_succ,i64_w,i32_w];rfl
 refine take_ (i:=3) (N:=some 15) (v:=?_) (a':=?_) #[true,true,true,true,true,true,true,false,false,false,false,false,false,false,false] rfl rfl (by kernel_rfl) (fun _ _ _ h=>h) (Or.inl ⟨by rfl,?_⟩) hHeld ?_ ?_;rotate_left
 ·rintro w' ⟨s0,s1,s2⟩;go_simp;with_reducible rfl
 rotate_left
 ·simp only [Act.put,List.setIfInBounds_toArray,List.set_cons_zero,List.set_cons_succ,i64_w,i32_w];rfl
 refine take_ (i:=7) (N:=some 19) (v:=?_) (a':=?_) #[true,true,true,true,true,true,true,true,false,false,false,false,false,false,false] rfl rfl (by kernel_rfl) (fun _ _ _ h=>h) (Or.inl ⟨by rfl,?_⟩) hHeld ?_ ?_;rotate_left
 ·rintro w' ⟨s0,s1,s2⟩;go_simp;with_reducible rfl
 rotate_left
 ·simp only [Act.put,List.setIfInBounds_toArray,List.set_cons_zero,List.set_cons_succ,i64_w,i32_w];rfl
 refine join_ (σ:=Nat) 2 #[true,true,true,true,true,true,true,true,true,true,true,true,true,false,false] (fun g=>[(20,.tuple #[.agg #[.int .i64 t.kind,.int .i64 (t.at_:Int),.int .i64 (t.end_:Int),.int .i64 t.n,.string (strOfNums t.text)],.nilIface]),(3,.pointer (some ⟨g,0,none⟩)),(11,.tuple #[.agg #[.int .i64 t.kind,.int .i64 (t.at_:Int),.int .i64 (t.end_:Int),.int .i64 t.n,.string (strOfNums t.text)],.nilIface]),(21,.agg #[.int .i64 t.kind,.int .i64 (t.at_:Int),.int .i64 (t.end_:Int),.int .i64 t.n,.string (strOfNums t.text)]),(22,.nilIface)]) (fun g w'=>(w'.cell? ⟨b,0,none⟩=some (.string s)∧w'.cell? ⟨b,1,none⟩=some (.int .i64 (a:Int))∧NInv w b s a w')∧w'.heap[g]? = some (.cells #[.int .i64 0,.int .i64 0,.int .i64 0,.int .i64 0,.string ⟨#[]⟩] 24 (0,0))∧w.heap.size < g) ?_ ?_;rotate_left
 ·intro hCont;refine two_ (i:=8) (j:=12) (Ni:=some 20) (Nj:=some 3) #[true,true,true,true,true,true,true,true,true,false,false,false,false,false,false] #[true,true,true,true,true,true,true,true,false,false,false,false,true,false,false] rfl rfl rfl rfl (by kernel_rfl) (by decide) (by decide) (fun K hK=>?_) (fun K hK=>?_)
  ·skip;refine goes_ Tryd.func16 (by kernel_rfl) rfl #[.string s,.int .i64 (a:Int)] (by rfl) rfl rfl (by simp only [List.map_toArray,List.map_cons,List.map_nil];rfl) ?_;refine (next_tok s a t HRES.out ha _ hHeld.2.2.2.2.2 hsz).mono ?_;rintro e w3 ⟨rfl,hb3⟩;refine ⟨_,rfl,?_⟩;have hNI:=NInv.step hHeld.2.2 hb3;refine hK.out _ _ ⟨(blk_cell hNI.2.1 0).trans rfl,(blk_cell hNI.2.1 1).trans rfl,hNI⟩ (fun hHeld=>?_);clear hK K;refine norm_ (a':=?_) ?_ ?_;rotate_left
   ·show Act.put _ (some 20) _=_;simp only [Act.put,List.setIfInBounds_toArray,List.set_cons_zero,List.set_cons_succ,i64_w,i32_w];rfl
   refine pure_ (i:=9) (N:=some 11) (v:=?_) (a':=?_) #[true,true,true,true,true,true,true,true,true,true,false,false,false,false,false] rfl rfl (by kernel_rfl) (fun _ _ _ h=>h) (Or.inl ⟨by rfl,?_⟩) ?_ ?_;rotate_left
   ·intro w';go_simp;with_reducible rfl
   rotate_left
   ·simp only [Act.put,List.setIfInBounds_toArray,List.set_cons_zero,List.set_cons_succ,i64_w,i32_w];rfl
   refine pure_ (i:=10) (N:=some 21) (v:=?_) (a':=?_) #[true,true,true,true,true,true,true,true,true,true,true,false,false,false,false] rfl rfl (by kernel_rfl) (fun _ _ _ h=>h) (Or.inl ⟨by rfl,?_⟩) ?_ ?_;rotate_left
   ·intro w';go_simp;with_reducible rfl
   rotate_left
   ·simp only [Act.put,List.setIfInBounds_toArray,List.set_cons_zero,List.set_cons_succ,i64_w,i32_w];rfl
   refine pure_ (i:=11) (N:=some 22) (v:=?_) (a':=?_) #[true,true,true,true,true,true,true,true,true,true,true,true,false,false,false] rfl rfl (by kernel_rfl) (fun _ _ _ h=>h) (Or.inl ⟨by rfl,?_⟩) ?_ ?_;rotate_left
   ·intro w';go_simp;with_reducible rfl
   rotate_left
   ·simp only [Act.put,List.setIfInBounds_toArray,List.set_cons_zero,List.set_cons_succ,i64_w,i32_w];rfl
   refine one_ (i:=12) (N:=some 3) #[true,true,true,true,true,true,true,true,true,true,true,true,true,false,false] rfl rfl (by kernel_rfl) (by decide) (fun K hK=>?_);refine value_ (w1:=?_) (v:=?_) (by rfl) rfl ?_ ?_;rotate_left 2
   ·go_simp;constructor
    ·rfl
    ·rfl
   obtain ⟨hNI,hGB,hGL⟩:=NInv.alloc hHeld.2.2;refine hK.out _ _ ⟨(blk_cell hNI.2.1 0).trans rfl,(blk_cell hNI.2.1 1).trans rfl,hNI⟩ (fun hHeld=>?_);clear hK K;refine norm_ (a':=?_) ?_ ?_;rotate_left
   ·show Act.put _ (some 3) _=_;simp only [Act.put,List.setIfInBounds_toArray,List.set_cons_zero,List.set_cons_succ,i64_w,i32_w];rfl
   exact norm_ (by first|(simp only [putAll,Act.put,List.setIfInBounds_toArray,List.set_cons_zero,List.set_cons_succ];done)|(simp only [putAll,Act.put,List.setIfInBounds_toArray,List.set_cons_zero,List.set_cons_succ];rfl)) (hCont _ _ ⟨hHeld,hGB,hGL⟩)
  ·skip;refine value_ (w1:=?_) (v:=?_) (by rfl) rfl ?_ ?_;rotate_left 2
   ·go_simp;constructor
    ·rfl
    ·rfl
   obtain ⟨hNI,hGB,hGL⟩:=NInv.alloc hHeld.2.2;refine hK.out _ _ ⟨(blk_cell hNI.2.1 0).trans rfl,(blk_cell hNI.2.1 1).trans rfl,hNI⟩ (fun hHeld=>?_);clear hK K;refine norm_ (a':=?_) ?_ ?_;rotate_left
   ·show Act.put _ (some 3) _=_;simp only [Act.put,List.setIfInBounds_toArray,List.set_cons_zero,List.set_cons_succ,i64_w,i32_w];rfl
   refine one_ (i:=8) (N:=some 20) #[true,true,true,true,true,true,true,true,true,false,false,false,true,false,false] rfl rfl (by kernel_rfl) (by decide) (fun K hK=>?_);refine goes_ Tryd.func16 (by kernel_rfl) rfl #[.string s,.int .i64 (a:Int)] (by rfl) rfl rfl (by simp only [List.map_toArray,List.map_cons,List.map_nil];rfl) ?_;refine (next_tok s a t HRES.out ha _ hHeld.2.2.2.2.2 hsz).mono ?_;rintro e w3 ⟨rfl,hb3⟩;refine ⟨_,rfl,?_⟩;have hNI:=NInv.step hHeld.2.2 hb3;have hGB:=blk_below hGB hb3;refine hK.out _ _ ⟨(blk_cell hNI.2.1 0).trans rfl,(blk_cell hNI.2.1 1).trans rfl,hNI⟩ (fun hHeld=>?_);clear hK K;refine norm_ (a':=?_) ?_ ?_;rotate_left
   ·show Act.put _ (some 20) _=_;simp only [Act.put,List.setIfInBounds_toArray,List.set_cons_zero,List.set_cons_succ,i64_w,i32_w];rfl
   refine pure_ (i:=9) (N:=some 11) (v:=?_) (a':=?_) #[true,true,true,true,true,true,true,true,true,true,false,false,true,false,false] rfl rfl (by kernel_rfl) (fun _ _ _ h=>h) (Or.inl ⟨by rfl,?_⟩) ?_ ?_;rotate_left
   ·intro w';go_simp;with_reducible rfl
   rotate_left
   ·simp only [Act.put,List.setIfInBounds_toArray,List.set_cons_zero,List.set_cons_succ,i64_w,i32_w];rfl
   refine pure_ (i:=10) (N:=some 21) (v:=?_) (a':=?_) #[true,true,true,true,true,true,true,true,true,true,true,false,true,false,false] rfl rfl (by kernel_rfl) (fun _ _ _ h=>h) (Or.inl ⟨by rfl,?_⟩) ?_ ?_;rotate_left
   ·intro w';go_simp;with_reducible rfl
   rotate_left
   ·simp only [Act.put,List.setIfInBounds_toArray,List.set_cons_zero,List.set_cons_succ,i64_w,i32_w];rfl
   refine pure_ (i:=11) (N:=some 22) (v:=?_) (a':=?_) #[true,true,true,true,true,true,true,true,true,true,true,true,true,false,false] rfl rfl (by kernel_rfl) (fun _ _ _ h=>h) (Or.inl ⟨by rfl,?_⟩) ?_ ?_;rotate_left
   ·intro w';go_simp;with_reducible rfl
   rotate_left
   ·simp only [Act.put,List.setIfInBounds_toArray,List.set_cons_zero,List.set_cons_succ,i64_w,i32_w];rfl
   exact norm_ (by first|(simp only [putAll,Act.put,List.setIfInBounds_toArray,List.set_cons_zero,List.set_cons_succ];done)|(simp only [putAll,Act.put,List.setIfInBounds_toArray,List.set_cons_zero,List.set_cons_succ];rfl)) (hCont _ _ ⟨hHeld,hGB,hGL⟩)
 rintro g w4 ⟨hHeld,hGB,hGL⟩;refine norm_ (a':=?_) ?_ ?_;rotate_left
 ·simp only [putAll,Act.put,List.setIfInBounds_toArray,List.set_cons_zero,List.set_cons_succ];rfl
 refine one_ (i:=13) (N:=none) #[true,true,true,true,true,true,true,true,true,true,true,true,true,true,false] rfl rfl (by kernel_rfl) (by decide) (fun K hK=>?_);obtain ⟨z0,z1,z2,z3,z4⟩:=cells5 hGB;obtain ⟨f0,f1,f2,f3,f4⟩:=frozen5 hGB;refine skip_ (w1:=?_) (by rfl) rfl ?_ ?_;rotate_left
 ·go_simp;rfl
 have hNI:=NInv.set5 (.int .i64 t.kind) (.int .i64 (t.at_:Int)) (.int .i64 (t.end_:Int)) (.int .i64 t.n) (.string (strOfNums t.text)) hHeld.2.2 HBL.out HSL.out hGL;have hTB:=put5 (.int .i64 t.kind) (.int .i64 (t.at_:Int)) (.int .i64 (t.end_:Int)) (.int .i64 t.n) (.string (strOfNums t.text)) hGB;clear z0 f0 z1 f1 z2 f2 z3 f3 z4 f4;refine hK.out _ _ ⟨(blk_cell hNI.2.1 0).trans rfl,(blk_cell hNI.2.1 1).trans rfl,hNI⟩ (fun hHeld=>?_);clear hK K;refine pure_ (i:=14) (N:=some 4) (v:=?_) (a':=?_) #[true,true,true,true,true,true,true,true,true,true,true,true,true,true,true] rfl rfl (by kernel_rfl) (fun _ _ _ h=>h) (Or.inl ⟨by rfl,?_⟩) ?_ ?_;rotate_left
 ·intro w';go_simp;with_reducible rfl
 rotate_left
 ·simp only [Act.put,List.setIfInBounds_toArray,List.set_cons_zero,List.set_cons_succ,i64_w,i32_w];rfl
 refine done_ (by kernel_rfl) ?_;have HTB:=Lib.hid hTB;have HNI:=Lib.hid hNI;have HGL:=Lib.hid hGL;clear hHeld hNI hTB hGB;generalize (((((w4.setCell ⟨g,0,none⟩ (.int .i64 t.kind)).setCell ⟨g,1,none⟩ (.int .i64 (t.at_:Int))).setCell ⟨g,2,none⟩ (.int .i64 (t.end_:Int))).setCell ⟨g,3,none⟩ (.int .i64 t.n)).setCell ⟨g,4,none⟩ (.string (strOfNums t.text)))=w5 at *
 (have hbg:b ≠ g:=by have:=HBL.out;omega);have hlt:=HBL.out;have HOK:=Lib.hid (Pure.nextS_ok (by rw [bytesOf_length];exact ha) HRES.out).2.1;have j1:=(blk_cell HNI.out.2.1 1).trans (show _=some (.int .i64 (a:Int)) from rfl);have j2:=(blk_cell HNI.out.2.1 2).trans (show _=some .nilIface from rfl);have e1:=blk_frozen HNI.out.2.1 1;have e2:=blk_frozen HNI.out.2.1 2;have c2:=(blk_cell HTB.out 2).trans (show _=some (.int .i64 (t.end_:Int)) from rfl);(go_upto_region 5 with (fail));have HTB6:=Lib.hid (show ((w5.setCell ⟨b,1,none⟩ (.int .i64 (t.end_:Int))).setCell ⟨b,2,none⟩ .nilIface).heap[g]? = _ from blk_far (blk_far HTB.out (p:=⟨b,1,none⟩) (Ne.symm hbg) _) (p:=⟨b,2,none⟩) (Ne.symm hbg) _);have HRB6:=Lib.hid (show ((w5.setCell ⟨b,1,none⟩ (.int .i64 (t.end_:Int))).setCell ⟨b,2,none⟩ .nilIface).heap[w.heap.size]? = _ from blk_far (blk_far HNI.out.2.2.1 (p:=⟨b,1,none⟩) (show w.heap.size ≠ b by omega) _) (p:=⟨b,2,none⟩) (show w.heap.size ≠ b by omega) _);have HB6:=Lib.hid (show ((w5.setCell ⟨b,1,none⟩ (.int .i64 (t.end_:Int))).setCell ⟨b,2,none⟩ .nilIface).heap[b]? = some (.cells #[.string s,.int .i64 (t.end_:Int),.nilIface] 89 (0,0)) from blk_put (blk_put HNI.out.2.1 1 _ rfl) 2 _ rfl);have HS6:=Lib.hid (show Step w ((w5.setCell ⟨b,1,none⟩ (.int .i64 (t.end_:Int))).setCell ⟨b,2,none⟩ .nilIface) b from ⟨((HNI.out.1.mono (Nat.le_of_lt hlt)).setCell (Nat.le_refl b) _).setCell (Nat.le_refl b) _,((KeepBut.of_below HNI.out.1 b none).set_ 1 _).set_ 2 _⟩);clear j1 j2 e1 e2 c2;generalize ((w5.setCell ⟨b,1,none⟩ (.int .i64 (t.end_:Int))).setCell ⟨b,2,none⟩ .nilIface)=w6 at *
 obtain ⟨c0,c1,c2,c3,c4⟩:=cells5 HTB6.out;have hblk:=HRB6.out;obtain ⟨k0,k1,k2,k3,k4⟩:=cells5 hblk;obtain ⟨f0,f1,f2,f3,f4⟩:=frozen5 hblk;have HK:=Lib.hid hblk;clear hblk;go_wp2;refine bodyPost_ret (results_c rfl _ _ w.heap.size 24 _ (0,0) _ rfl (put5 _ _ _ _ _ HK.out) Tryd.underlying24 rfl (by kernel_rfl)) rfl ?_;exact ⟨rfl,⟨by rw [← bytesOf_length];exact HOK.out,far5 _ _ _ _ _ (show b ≠ w.heap.size by omega) HB6.out⟩,HS6.out.set5 _ _ _ _ _ (Nat.le_of_lt hlt)⟩
set_option maxRecDepth 100000 in
set_option maxHeartbeats 8000000 in
theorem rnext_bad (s:ByteArray) (b a p:Nat) (c:Int) (hr:Pure.nextS (bytesOf s) a = .inr (p,c)) (w:World) (hs:Signs w) (hsz:s.size≤140737488351232) (h:RSt w b s (.inl a)) :
  Calls Tryd.prog 65 #[.pointer (some ⟨b,0,none⟩)] w fun e w'=>e = .returned (tokV Pure.tok0)∧RSt w' b s (.inr (p,c))∧Step w w' b:=by
 obtain ⟨ha,hb⟩:=h;have HBL:=Lib.hid (blk_lt hb);have HSL:=Lib.hid hs.lt;have HRES:=Lib.hid hr;have hba:=below_alloc (Below.refl w.heap.size w) (.cells #[.int .i64 0,.int .i64 0,.int .i64 0,.int .i64 0,.string ⟨#[]⟩] 24);have NI0:=Lib.hid (show NInv w b s a (w.alloc (.cells #[.int .i64 0,.int .i64 0,.int .i64 0,.int .i64 0,.string ⟨#[]⟩] 24)) from ⟨hba,blk_below hb hba,blk_new w _,hs.below hba (Nat.le_refl _)⟩);have k2:=(blk_cell NI0.out.2.1 2).trans (show _=some .nilIface from rfl);clear hb hs hr hba;(go_enter Tryd.func65,Tryd.ntmps65);(go_upto_region 3 with (fail));clear k2;generalize (w.alloc (.cells #[.int .i64 0,.int .i64 0,.int .i64 0,.int .i64 0,.string ⟨#[]⟩] 24))=W0 at *
 refine start_ (n:=15) (S:=fun w'=>w'.cell? ⟨b,0,none⟩=some (.string s)∧w'.cell? ⟨b,1,none⟩=some (.int .i64 (a:Int))∧NInv w b s a w') (ds:=[]) #[false,false,false,false,false,false,false,false,false,false,false,false,false,false,false] (by kernel_rfl) rfl rfl ⟨(blk_cell NI0.out.2.1 0).trans rfl,(blk_cell NI0.out.2.1 1).trans rfl,NI0.out.drew⟩ (fun hHeld=>?_);refine pure_ (i:=0) (N:=some 12) (v:=?_) (a':=?_) #[true,false,false,false,false,false,false,false,false,false,false,false,false,false,false] rfl rfl (by kernel_rfl) (fun _ _ _ h=>h) (Or.inl ⟨by rfl,?_⟩) ?_ ?_;rotate_left
 ·intro w';go_simp;with_reducible rfl
 rotate_left
 ·simp only [Act.put,List.setIfInBounds_toArray,List.set_cons_zero,List.set_cons_succ,i64_w,i32_w];rfl
 refine pure_ (i:=1) (N:=some 13) (v:=?_) (a':=?_) #[true,true,false,false,false,false,false,false,false,false,false,false,false,false,false] rfl rfl (by kernel_rfl) (fun _ _ _ h=>h) (Or.inl ⟨by rfl,?_⟩) ?_ ?_;rotate_left
 ·intro w';go_simp;with_reducible rfl
 rotate_left
 ·simp only [Act.put,List.setIfInBounds_toArray,List.set_cons_zero,List.set_cons_succ,i64_w,i32_w];rfl
 refine pure_ (i:=2) (N:=some 14) (v:=?_) (a':=?_) #[true,true,true,false,false,false,false,false,false,false,false,false,false,false,false] rfl rfl (by kernel_rfl) (fun _ _ _ h=>h) (Or.inl ⟨by rfl,?_⟩) ?_ ?_;rotate_left
 ·intro w';go_simp;with_reducible rfl
 rotate_left
 ·simp only [Act.put,List.setIfInBounds_toArray,List.set_cons_zero,List.set_cons_succ,i64_w,i32_w];rfl
 refine pure_ (i:=4) (N:=some 16) (v:=?_) (a':=?_) #[true,true,true,false,true,false,false,false,false,false,false,false,false,false,false] rfl rfl (by kernel_rfl) (fun _ _ _ h=>h) (Or.inl ⟨by rfl,?_⟩) ?_ ?_;rotate_left
 ·intro w';go_simp;with_reducible rfl
 rotate_left
 ·simp only [Act.put,List.setIfInBounds_toArray,List.set_cons_zero,List.set_cons_succ,i64_w,i32_w];rfl
 refine pure_ (i:=5) (N:=some 17) (v:=?_) (a':=?_) #[true,true,true,false,true,true,false,false,false,false,false,false,false,false,false] rfl rfl (by kernel_rfl) (fun _ _ _ h=>h) (Or.inl ⟨by rfl,?_⟩) ?_ ?_;rotate_left
 ·intro w';go_simp;with_reducible rfl
 rotate_left
 ·simp only [Act.put,List.setIfInBounds_toArray,List.set_cons_zero,List.set_cons_succ,i64_w,i32_w];rfl
 refine pure_ (i:=6) (N:=some 18) (v:=?_) (a':=?_) #[true,true,true,false,true,true,true,false,false,false,false,false,false,false,false] rfl rfl (by kernel_rfl) (fun _ _ _ h=>h) (Or.inl ⟨by rfl,?_⟩) ?_ ?_;rotate_left
 ·intro w';go_simp;with_reducible rfl
 rotate_left
 ·simp only [Act.put,List.setIfInBounds_toArray,List.set_cons_zero,List.set_cons_succ,i64_w,i32_w];rfl
 refine take_ (i:=3) (N:=some 15) (v:=?_) (a':=?_) #[true,true,true,true,true,true,true,false,false,false,false,false,false,false,false] rfl rfl (by kernel_rfl) (fun _ _ _ h=>h) (Or.inl ⟨by rfl,?_⟩) hHeld ?_ ?_;rotate_left
 ·rintro w' ⟨s0,s1,s2⟩;go_simp;with_reducible rfl
 rotate_left
 ·simp only [Act.put,List.setIfInBounds_toArray,List.set_cons_zero,List.set_cons_succ,i64_w,i32_w];rfl
 refine take_ (i:=7) (N:=some 19) (v:=?_) (a':=?_) #[true,true,true,true,true,true,true,true,false,false,false,false,false,false,false] rfl rfl (by kernel_rfl) (fun _ _ _ h=>h) (Or.inl ⟨by rfl,?_⟩) hHeld ?_ ?_;rotate_left
 ·rintro w' ⟨s0,s1,s2⟩;go_simp;with_reducible rfl
 rotate_left
 ·simp only [Act.put,List.setIfInBounds_toArray,List.set_cons_zero,List.set_cons_succ,i64_w,i32_w];rfl
 refine join_ (σ:=Nat × TypeId × Value) 2 #[true,true,true,true,true,true,true,true,true,true,true,true,true,false,false] (fun g=>[(20,.tuple #[.agg #[.int .i64 0,.int .i64 0,.int .i64 0,.int .i64 0,.string ⟨#[]⟩],.iface g.2.1 g.2.2]),(3,.pointer (some ⟨g.1,0,none⟩)),(11,.tuple #[.agg #[.int .i64 0,.int .i64 0,.int .i64 0,.int .i64 0,.string ⟨#[]⟩],.iface g.2.1 g.2.2]),(21,.agg #[.int .i64 0,.int .i64 0,.int .i64 0,.int .i64 0,.string ⟨#[]⟩]),(22,.iface g.2.1 g.2.2)]) (fun g w'=>(w'.cell? ⟨b,0,none⟩=some (.string s)∧w'.cell? ⟨b,1,none⟩=some (.int .i64 (a:Int))∧NInv w b s a w')∧w'.heap[g.1]? = some (.cells #[.int .i64 0,.int .i64 0,.int .i64 0,.int .i64 0,.string ⟨#[]⟩] 24 (0,0))∧w.heap.size < g.1∧Err w' (.iface g.2.1 g.2.2) [(p:Int)] (some c)) ?_ ?_;rotate_left
 ·intro hCont;refine two_ (i:=8) (j:=12) (Ni:=some 20) (Nj:=some 3) #[true,true,true,true,true,true,true,true,true,false,false,false,false,false,false] #[true,true,true,true,true,true,true,true,false,false,false,false,true,false,false] rfl rfl rfl rfl (by kernel_rfl) (by decide) (by decide) (fun K hK=>?_) (fun K hK=>?_)
  ·skip;refine goes_ Tryd.func16 (by kernel_rfl) rfl #[.string s,.int .i64 (a:Int)] (by rfl) rfl rfl (by simp only [List.map_toArray,List.map_cons,List.map_nil];rfl) ?_;refine (next_bad s a p c HRES.out ha _ hHeld.2.2.2.2.2 hsz).mono ?_;rintro e w3 ⟨T,u,rfl,hER,hb3⟩;refine ⟨_,rfl,?_⟩;have hNI:=NInv.step hHeld.2.2 hb3;refine hK.out _ _ ⟨(blk_cell hNI.2.1 0).trans rfl,(blk_cell hNI.2.1 1).trans rfl,hNI⟩ (fun hHeld=>?_);clear hK K;refine norm_ (a':=?_) ?_ ?_;rotate_left
   ·show Act.put _ (some 20) _=_;simp only [Act.put,List.setIfInBounds_toArray,List.set_cons_zero,List.set_cons_succ,i64_w,i32_w];rfl
   refine pure_ (i:=9) (N:=some 11) (v:=?_) (a':=?_) #[true,true,true,true,true,true,true,true,true,true,false,false,false,false,false] rfl rfl (by kernel_rfl) (fun _ _ _ h=>h) (Or.inl ⟨by rfl,?_⟩) ?_ ?_;rotate_left
   ·intro w';go_simp;with_reducible rfl
   rotate_left
   ·simp only [Act.put,List.setIfInBounds_toArray,List.set_cons_zero,List.set_cons_succ,i64_w,i32_w];rfl
   refine pure_ (i:=10) (N:=some 21) (v:=?_) (a':=?_) #[true,true,true,true,true,true,true,true,true,true,true,false,false,false,false] rfl rfl (by kernel_rfl) (fun _ _ _ h=>h) (Or.inl ⟨by rfl,?_⟩) ?_ ?_;rotate_left
   ·intro w';go_simp;with_reducible rfl
   rotate_left
   ·simp only [Act.put,List.setIfInBounds_toArray,List.set_cons_zero,List.set_cons_succ,i64_w,i32_w];rfl
   refine pure_ (i:=11) (N:=some 22) (v:=?_) (a':=?_) #[true,true,true,true,true,true,true,true,true,true,true,true,false,false,false] rfl rfl (by kernel_rfl) (fun _ _ _ h=>h) (Or.inl ⟨by rfl,?_⟩) ?_ ?_;rotate_left
   ·intro w';go_simp;with_reducible rfl
   rotate_left
   ·simp only [Act.put,List.setIfInBounds_toArray,List.set_cons_zero,List.set_cons_succ,i64_w,i32_w];rfl
   refine one_ (i:=12) (N:=some 3) #[true,true,true,true,true,true,true,true,true,true,true,true,true,false,false] rfl rfl (by kernel_rfl) (by decide) (fun K hK=>?_);refine value_ (w1:=?_) (v:=?_) (by rfl) rfl ?_ ?_;rotate_left 2
   ·go_simp;constructor
    ·rfl
    ·rfl
   obtain ⟨hNI,hGB,hGL⟩:=NInv.alloc hHeld.2.2;have hER:=hER.below (below_alloc (Below.refl _ _) (.cells #[.int .i64 0,.int .i64 0,.int .i64 0,.int .i64 0,.string ⟨#[]⟩] 24)) (Nat.le_refl _);refine hK.out _ _ ⟨(blk_cell hNI.2.1 0).trans rfl,(blk_cell hNI.2.1 1).trans rfl,hNI⟩ (fun hHeld=>?_);clear hK K;refine norm_ (a':=?_) ?_ ?_;rotate_left
   ·show Act.put _ (some 3) _=_;simp only [Act.put,List.setIfInBounds_toArray,List.set_cons_zero,List.set_cons_succ,i64_w,i32_w];rfl
   exact norm_ (by first|(simp only [putAll,Act.put,List.setIfInBounds_toArray,List.set_cons_zero,List.set_cons_succ];done)|(simp only [putAll,Act.put,List.setIfInBounds_toArray,List.set_cons_zero,List.set_cons_succ];rfl)) (hCont ⟨_,T,u⟩ _ ⟨hHeld,hGB,hGL,hER⟩)
  ·skip;refine value_ (w1:=?_) (v:=?_) (by rfl) rfl ?_ ?_;rotate_left 2
   ·go_simp;constructor
    ·rfl
    ·rfl
   obtain ⟨hNI,hGB,hGL⟩:=NInv.alloc hHeld.2.2;refine hK.out _ _ ⟨(blk_cell hNI.2.1 0).trans rfl,(blk_cell hNI.2.1 1).trans rfl,hNI⟩ (fun hHeld=>?_);clear hK K;refine norm_ (a':=?_) ?_ ?_;rotate_left
   ·show Act.put _ (some 3) _=_;simp only [Act.put,List.setIfInBounds_toArray,List.set_cons_zero,List.set_cons_succ,i64_w,i32_w];rfl
   refine one_ (i:=8) (N:=some 20) #[true,true,true,true,true,true,true,true,true,false,false,false,true,false,false] rfl rfl (by kernel_rfl) (by decide) (fun K hK=>?_);refine goes_ Tryd.func16 (by kernel_rfl) rfl #[.string s,.int .i64 (a:Int)] (by rfl) rfl rfl (by simp only [List.map_toArray,List.map_cons,List.map_nil];rfl) ?_;refine (next_bad s a p c HRES.out ha _ hHeld.2.2.2.2.2 hsz).mono ?_;rintro e w3 ⟨T,u,rfl,hER,hb3⟩;refine ⟨_,rfl,?_⟩;have hNI:=NInv.step hHeld.2.2 hb3;have hGB:=blk_below hGB hb3;refine hK.out _ _ ⟨(blk_cell hNI.2.1 0).trans rfl,(blk_cell hNI.2.1 1).trans rfl,hNI⟩ (fun hHeld=>?_);clear hK K;refine norm_ (a':=?_) ?_ ?_;rotate_left
   ·show Act.put _ (some 20) _=_;simp only [Act.put,List.setIfInBounds_toArray,List.set_cons_zero,List.set_cons_succ,i64_w,i32_w];rfl
   refine pure_ (i:=9) (N:=some 11) (v:=?_) (a':=?_) #[true,true,true,true,true,true,true,true,true,true,false,false,true,false,false] rfl rfl (by kernel_rfl) (fun _ _ _ h=>h) (Or.inl ⟨by rfl,?_⟩) ?_ ?_;rotate_left
   ·intro w';go_simp;with_reducible rfl
   rotate_left
   ·simp only [Act.put,List.setIfInBounds_toArray,List.set_cons_zero,List.set_cons_succ,i64_w,i32_w];rfl
   refine pure_ (i:=10) (N:=some 21) (v:=?_) (a':=?_) #[true,true,true,true,true,true,true,true,true,true,true,false,true,false,false] rfl rfl (by kernel_rfl) (fun _ _ _ h=>h) (Or.inl ⟨by rfl,?_⟩) ?_ ?_;rotate_left
   ·intro w';go_simp;with_reducible rfl
   rotate_left
   ·simp only [Act.put,List.setIfInBounds_toArray,List.set_cons_zero,List.set_cons_succ,i64_w,i32_w];rfl
   refine pure_ (i:=11) (N:=some 22) (v:=?_) (a':=?_) #[true,true,true,true,true,true,true,true,true,true,true,true,true,false,false] rfl rfl (by kernel_rfl) (fun _ _ _ h=>h) (Or.inl ⟨by rfl,?_⟩) ?_ ?_;rotate_left
   ·intro w';go_simp;with_reducible rfl
   rotate_left
   ·simp only [Act.put,List.setIfInBounds_toArray,List.set_cons_zero,List.set_cons_succ,i64_w,i32_w];rfl
   exact norm_ (by first|(simp only [putAll,Act.put,List.setIfInBounds_toArray,List.set_cons_zero,List.set_cons_succ];done)|(simp only [putAll,Act.put,List.setIfInBounds_toArray,List.set_cons_zero,List.set_cons_succ];rfl)) (hCont ⟨_,T,u⟩ _ ⟨hHeld,hGB,hGL,hER⟩)
 rintro ⟨g,T,u⟩ w4 ⟨hHeld,hGB,hGL,hER⟩;dsimp only at hGB hGL hER;dsimp only;refine norm_ (a':=?_) ?_ ?_;rotate_left
 ·simp only [putAll,Act.put,List.setIfInBounds_toArray,List.set_cons_zero,List.set_cons_succ];rfl
 refine one_ (i:=13) (N:=none) #[true,true,true,true,true,true,true,true,true,true,true,true,true,true,false] rfl rfl (by kernel_rfl) (by decide) (fun K hK=>?_);obtain ⟨z0,z1,z2,z3,z4⟩:=cells5 hGB;obtain ⟨f0,f1,f2,f3,f4⟩:=frozen5 hGB;refine skip_ (w1:=?_) (by rfl) rfl ?_ ?_;rotate_left
 ·go_simp;rfl
 have hNI:=NInv.set5 (.int .i64 0) (.int .i64 0) (.int .i64 0) (.int .i64 0) (.string ⟨#[]⟩) hHeld.2.2 HBL.out HSL.out hGL;have hTB:=put5 (.int .i64 0) (.int .i64 0) (.int .i64 0) (.int .i64 0) (.string ⟨#[]⟩) hGB;have hER:=hER.put5 (.int .i64 0) (.int .i64 0) (.int .i64 0) (.string ⟨#[]⟩) (k':=.i64) (m:=0) hGB;clear z0 f0 z1 f1 z2 f2 z3 f3 z4 f4;refine hK.out _ _ ⟨(blk_cell hNI.2.1 0).trans rfl,(blk_cell hNI.2.1 1).trans rfl,hNI⟩ (fun hHeld=>?_);clear hK K;refine pure_ (i:=14) (N:=some 4) (v:=?_) (a':=?_) #[true,true,true,true,true,true,true,true,true,true,true,true,true,true,true] rfl rfl (by kernel_rfl) (fun _ _ _ h=>h) (Or.inl ⟨by rfl,?_⟩) ?_ ?_;rotate_left
 ·intro w';go_simp;with_reducible rfl
 rotate_left
 ·simp only [Act.put,List.setIfInBounds_toArray,List.set_cons_zero,List.set_cons_succ,i64_w,i32_w];rfl
 refine done_ (by kernel_rfl) ?_;have HTB:=Lib.hid hTB;have HNI:=Lib.hid hNI;have HGL:=Lib.hid hGL;clear hHeld hNI hTB hGB;generalize (((((w4.setCell ⟨g,0,none⟩ (.int .i64 0)).setCell ⟨g,1,none⟩ (.int .i64 0)).setCell ⟨g,2,none⟩ (.int .i64 0)).setCell ⟨g,3,none⟩ (.int .i64 0)).setCell ⟨g,4,none⟩ (.string ⟨#[]⟩))=w5 at *
 (have hbg:b ≠ g:=by have:=HBL.out;omega);have hlt:=HBL.out;have HER5:=Lib.hid hER;clear hER;have j1:=(blk_cell HNI.out.2.1 1).trans (show _=some (.int .i64 (a:Int)) from rfl);have j2:=(blk_cell HNI.out.2.1 2).trans (show _=some .nilIface from rfl);have e1:=blk_frozen HNI.out.2.1 1;have e2:=blk_frozen HNI.out.2.1 2;have c2:=(blk_cell HTB.out 2).trans (show _=some (.int .i64 0) from rfl);(go_upto_region 5 with (fail));have HTB6:=Lib.hid (show ((w5.setCell ⟨b,1,none⟩ (.int .i64 0)).setCell ⟨b,2,none⟩ (.iface T u)).heap[g]? = _ from blk_far (blk_far HTB.out (p:=⟨b,1,none⟩) (Ne.symm hbg) _) (p:=⟨b,2,none⟩) (Ne.symm hbg) _);have HRB6:=Lib.hid (show ((w5.setCell ⟨b,1,none⟩ (.int .i64 0)).setCell ⟨b,2,none⟩ (.iface T u)).heap[w.heap.size]? = _ from blk_far (blk_far HNI.out.2.2.1 (p:=⟨b,1,none⟩) (show w.heap.size ≠ b by omega) _) (p:=⟨b,2,none⟩) (show w.heap.size ≠ b by omega) _);have HB6:=Lib.hid (show ((w5.setCell ⟨b,1,none⟩ (.int .i64 0)).setCell ⟨b,2,none⟩ (.iface T u)).heap[b]? = some (.cells #[.string s,.int .i64 0,.iface T u] 89 (0,0)) from blk_put (blk_put HNI.out.2.1 1 _ rfl) 2 _ rfl);have HS6:=Lib.hid (show Step w ((w5.setCell ⟨b,1,none⟩ (.int .i64 0)).setCell ⟨b,2,none⟩ (.iface T u)) b from ⟨((HNI.out.1.mono (Nat.le_of_lt hlt)).setCell (Nat.le_refl b) _).setCell (Nat.le_refl b) _,((KeepBut.of_below HNI.out.1 b none).set_ 1 _).set_ 2 _⟩);have HER6:=Lib.hid ((HER5.out.far (g:=b) 1 (.int .i64 0) j1).far (g:=b) 2 (.iface T u) ((blk_cell (blk_put (cs':=#[.string s,.int .i64 0,.nilIface]) HNI.out.2.1 1 (.int .i64 0) rfl) 1).trans rfl));clear j1 j2 e1 e2 c2;generalize ((w5.setCell ⟨b,1,none⟩ (.int .i64 0)).setCell ⟨b,2,none⟩ (.iface T u))=w6 at *
 obtain ⟨c0,c1,c2,c3,c4⟩:=cells5 HTB6.out;have hblk:=HRB6.out;obtain ⟨k0,k1,k2,k3,k4⟩:=cells5 hblk;obtain ⟨f0,f1,f2,f3,f4⟩:=frozen5 hblk;have HK:=Lib.hid hblk;clear hblk;go_wp2;refine bodyPost_ret (results_c rfl _ _ w.heap.size 24 _ (0,0) _ rfl (put5 _ _ _ _ _ HK.out) Tryd.underlying24 rfl (by kernel_rfl)) rfl ?_;exact ⟨rfl,⟨0,T,u,far5 _ _ _ _ _ (show b ≠ w.heap.size by omega) HB6.out,HER6.out.put5 _ _ _ _ HK.out⟩,HS6.out.set5 _ _ _ _ _ (Nat.le_of_lt hlt)⟩
theorem rnext_ok (s:ByteArray) (b a:Nat) (w:World) (hs:Signs w) (hsz:s.size≤140737488351232) (h:RSt w b s (.inl a)) :
  Calls Tryd.prog 65 #[.pointer (some ⟨b,0,none⟩)] w fun e w'=>e = .returned (tokV (Pure.nx (bytesOf s) (.inl a)).1)∧RSt w' b s (Pure.nx (bytesOf s) (.inl a)).2∧Step w w' b:=by
 cases hr:Pure.nextS (bytesOf s) a with
 | inl t=>
  (have e:Pure.nx (bytesOf s) (.inl a)=(t,.inl t.end_):=by simp only [Pure.nx,hr]);rw [e];exact rnext_tok s b a t hr w hs hsz h
 | inr pc=>
  (have e:Pure.nx (bytesOf s) (.inl a)=(Pure.tok0,.inr pc):=by simp only [Pure.nx,hr]);rw [e];exact rnext_bad s b a pc.1 pc.2 hr w hs hsz h
theorem rnext_calls (s:ByteArray) (b:Nat) (st:Pure.St) (w:World) (hs:Signs w) (hsz:s.size≤140737488351232) (h:RSt w b s st) :
  Calls Tryd.prog 65 #[.pointer (some ⟨b,0,none⟩)] w fun e w'=>e = .returned (tokV (Pure.nx (bytesOf s) st).1)∧RSt w' b s (Pure.nx (bytesOf s) st).2∧Step w w' b:=by
 cases st with
 | inl a=>exact rnext_ok s b a w hs hsz h
 | inr e=>exact rnext_err s b e.1 e.2 w h
set_option maxRecDepth 100000 in
set_option maxHeartbeats 4000000 in
theorem bad_calls (s:ByteArray) (b:Nat) (st:Pure.St) (t:Pure.Tok) (w:World) (hsz:s.size≤140737488351232) (h:RSt w b s st) :
  Calls Tryd.prog 66 #[.pointer (some ⟨b,0,none⟩),tokV t] w fun e w'=>e = .returned (.tuple #[])∧RSt w' b s (Pure.bd (bytesOf s) t st)∧Step w w' b:=by
 have hlt:=h.lt;have hba:=below_alloc (Below.refl w.heap.size w) (.cells #[.int .i64 t.kind,.int .i64 (t.at_:Int),.int .i64 (t.end_:Int),.int .i64 t.n,.string (strOfNums t.text)] 24);cases st with
 | inr pc=>
  obtain ⟨p,c⟩:=pc;have H:=Lib.hid (h.below hba);obtain ⟨x,T,u,hb,-⟩:=h;have k2:=(blk_cell (blk_below hb hba) 2).trans (show _=some (.iface T u) from rfl);have HS:=Lib.hid (Step.of_below hba hlt);clear hb hba;unfold tokV;(go_enter Tryd.func66,Tryd.ntmps66);go_wp2;go_end0;exact ⟨rfl,H.out,HS.out⟩
 | inl a=>
  obtain ⟨ha,hb⟩:=h;have HB:=Lib.hid (blk_below hb hba);have HBA:=Lib.hid hba;have HT:=Lib.hid (blk_new w (.cells #[.int .i64 t.kind,.int .i64 (t.at_:Int),.int .i64 (t.end_:Int),.int .i64 t.n,.string (strOfNums t.text)] 24));have k0:=(blk_cell HB.out 0).trans (show _=some (.string s) from rfl);have k2:=(blk_cell HB.out 2).trans (show _=some .nilIface from rfl);have c0:=(blk_cell HT.out 0).trans (show _=some (.int .i64 t.kind) from rfl);have c1:=(blk_cell HT.out 1).trans (show _=some (.int .i64 (t.at_:Int)) from rfl);clear hb hba ha;unfold tokV;by_cases h0:t.kind=0
  ·have HE:=Lib.hid (show Pure.bd (bytesOf s) t (.inl a) = .inr (s.size,10) by simp [Pure.bd,Pure.badE,h0,bytesOf_length]);have b0:(t.kind == 0)=true:=beq_iff_eq.2 h0;clear h0;(go_enter Tryd.func66,Tryd.ntmps66);(go_wp2_with fail);refine (new_calls 10 ((s.size:Int):Int) _ (by decide)).mono ?_;rintro e w2 ⟨v,rfl,he2,hb2⟩;obtain ⟨T,x,rfl⟩:=he2.iface (.inl (by simp));have hblk:=blk_below HB.out hb2;have j1:=(blk_cell hblk 1).trans (show _=some (.int .i64 (a:Int)) from rfl);have j2:=(blk_cell hblk 2).trans (show _=some .nilIface from rfl);have e2:=blk_frozen hblk 2;have hbw:=below_then HBA.out HBA.out.size hb2;have HR:=Lib.hid (show RSt (w2.setCell ⟨b,2,none⟩ (.iface T x)) b s (.inr (s.size,10)) from ⟨(a:Int),T,x,blk_put hblk 2 _ rfl,he2.far (g:=b) 2 (.iface T x) j1⟩);have HS:=Lib.hid (show Step w (w2.setCell ⟨b,2,none⟩ (.iface T x)) b from ⟨(hbw.mono (Nat.le_of_lt hlt)).setCell (Nat.le_refl b) _,(KeepBut.of_below hbw b none).set_ 2 _⟩);clear k0 k2 c0 c1 he2 hb2 hbw hblk j1;go_wp2;go_end0;rw [HE.out];exact ⟨rfl,HR.out,HS.out⟩
  ·have HE:=Lib.hid (show Pure.bd (bytesOf s) t (.inl a) = .inr (t.at_,2) by simp [Pure.bd,Pure.badE,h0]);have b0:(t.kind == 0)=false:=beq_eq_false_iff_ne.2 h0;clear h0;(go_enter Tryd.func66,Tryd.ntmps66);(go_wp2_with fail);refine (new_calls 2 ((t.at_:Int):Int) _ (by decide)).mono ?_;rintro e w2 ⟨v,rfl,he2,hb2⟩;obtain ⟨T,x,rfl⟩:=he2.iface (.inl (by simp));have hblk:=blk_below HB.out hb2;have j1:=(blk_cell hblk 1).trans (show _=some (.int .i64 (a:Int)) from rfl);have j2:=(blk_cell hblk 2).trans (show _=some .nilIface from rfl);have e2:=blk_frozen hblk 2;have hbw:=below_then HBA.out HBA.out.size hb2;have HR:=Lib.hid (show RSt (w2.setCell ⟨b,2,none⟩ (.iface T x)) b s (.inr (t.at_,2)) from ⟨(a:Int),T,x,blk_put hblk 2 _ rfl,he2.far (g:=b) 2 (.iface T x) j1⟩);have HS:=Lib.hid (show Step w (w2.setCell ⟨b,2,none⟩ (.iface T x)) b from ⟨(hbw.mono (Nat.le_of_lt hlt)).setCell (Nat.le_refl b) _,(KeepBut.of_below hbw b none).set_ 2 _⟩);clear k0 k2 c0 c1 he2 hb2 hbw hblk j1;go_wp2;go_end0;rw [HE.out];exact ⟨rfl,HR.out,HS.out⟩
theorem nx_inb (s:ByteArray) (st:Pure.St):Pure.InB (Pure.nx (bytesOf s) st).1.text:=by
 cases st with
 | inr e=>intro x hx;simp [Pure.nx,Pure.tok0] at hx
 | inl a=>
  cases hr:Pure.nextS (bytesOf s) a with
  | inr e=>intro x hx;simp [Pure.nx,hr,Pure.tok0] at hx
  | inl t=>
   (have e:Pure.nx (bytesOf s) (.inl a)=(t,.inl t.end_):=by simp only [Pure.nx,hr]);rw [e];exact (tok_parts (Pure.InB.drop (Pure.bytesOf_range s) _) hr).1
theorem is_some (t:Pure.Tok) (x:ByteArray) (h:Pure.InB t.text):route_is.f t.kind (t.at_:Int) (t.end_:Int) t.n (strOfNums t.text) x=some (Pure.isS t (bytesOf x)):=by
 unfold route_is.f Pure.isS;by_cases h1:t.kind=1
 ·rw [if_pos h1];congr 1;rw [Bool.eq_iff_iff,beq_iff_eq,Pure.toList_inj,decide_eq_true_iff];constructor
  ·rintro rfl;exact ⟨h1,(Pure.bytesOf_strOfNums _ h).symm⟩
  ·rintro ⟨-,e⟩;rw [e,Pure.strOfNums_bytesOf]
 ·rw [if_neg h1];congr 1;simp [h1]
theorem is_calls (t:Pure.Tok) (x:ByteArray) (h:Pure.InB t.text) (w:World) :
  Calls Tryd.prog 61 #[.agg #[.int .i64 t.kind,.int .i64 (t.at_:Int),.int .i64 (t.end_:Int),.int .i64 t.n,.string (strOfNums t.text)],.string x] w fun e w'=>e = .returned (.bool (Pure.isS t (bytesOf x)))∧Below w.heap.size w w':=by
 have h1:=route_is.calls t.kind (t.at_:Int) (t.end_:Int) t.n (strOfNums t.text) x _ w (is_some t x h);refine h1.mono ?_;rintro e w' ⟨rfl,hb⟩;exact ⟨rfl,hb⟩
set_option maxRecDepth 100000 in
set_option maxHeartbeats 4000000 in
theorem must_calls (s x:ByteArray) (b:Nat) (st:Pure.St) (w:World) (hs:Signs w) (hsz:s.size≤140737488351232) (h:RSt w b s st) (hsb:0 < b) :
  Calls Tryd.prog 64 #[.pointer (some ⟨b,0,none⟩),.string x] w fun e w'=>e = .returned (.tuple #[])∧RSt w' b s (Pure.mustC (bytesOf s) (bytesOf x) st)∧Step w w' b:=by
 have H0:=Lib.hid h;have HIN:=Lib.hid (nx_inb s st);have HM:=Lib.hid (show Pure.mustC (bytesOf s) (bytesOf x) st=(if Pure.isS (Pure.nx (bytesOf s) st).1 (bytesOf x)=true then (Pure.nx (bytesOf s) st).2 else Pure.bd (bytesOf s) (Pure.nx (bytesOf s) st).1 (Pure.nx (bytesOf s) st).2) from rfl);have HNX:=Lib.hid (rnext_calls s b st w hs hsz h);clear h hs;generalize Pure.nx (bytesOf s) st=r at *
 obtain ⟨t,st1⟩:=r;dsimp only at HIN HM HNX;(go_enter Tryd.func64,Tryd.ntmps64);(go_wp2_with fail);refine HNX.out.mono ?_;rintro e w1 ⟨rfl,h1,hst1⟩;have hlt1:=h1.lt;have hba:=below_alloc (Below.refl w1.heap.size w1) (.cells #[.int .i64 t.kind,.int .i64 (t.at_:Int),.int .i64 (t.end_:Int),.int .i64 t.n,.string (strOfNums t.text)] 24);have HK:=Lib.hid (blk_new w1 (.cells #[.int .i64 t.kind,.int .i64 (t.at_:Int),.int .i64 (t.end_:Int),.int .i64 t.n,.string (strOfNums t.text)] 24));have H2:=Lib.hid (h1.below hba);have HS2:=Lib.hid (hst1.trans (Step.of_below hba hlt1));have HLT:=Lib.hid (show w1.heap.size ≠ b by omega);clear h1 hst1 hba;unfold tokV;(go_upto_region 1 with (fail));generalize (w1.alloc (.cells #[.int .i64 t.kind,.int .i64 (t.at_:Int),.int .i64 (t.end_:Int),.int .i64 t.n,.string (strOfNums t.text)] 24))=w2 at *
 generalize w1.heap.size=g at *
 obtain ⟨c0,c1,c2,c3,c4⟩:=cells5 HK.out;(go_wp2_with fail);refine (is_calls t x HIN.out _).mono ?_;rintro e w3 ⟨rfl,hb3⟩;have H3:=Lib.hid (H2.out.below hb3);have HS3:=Lib.hid (HS2.out.trans (Step.of_below hb3 H2.out.lt));have hk3:=blk_below HK.out hb3;clear c0 c1 c2 c3 c4 hb3;cases hi:Pure.isS t (bytesOf x) with
 | true=>
  have HM2:=Lib.hid (show Pure.mustC (bytesOf s) (bytesOf x) st=st1 by rw [HM.out,hi];rfl);clear hi hk3;go_wp2;go_end0;rw [HM2.out];exact ⟨rfl,H3.out,HS3.out⟩
 | false=>
  have HM2:=Lib.hid (show Pure.mustC (bytesOf s) (bytesOf x) st=Pure.bd (bytesOf s) t st1 by rw [HM.out,hi];rfl);obtain ⟨c0,c1,c2,c3,c4⟩:=cells5 hk3;clear hi hk3;(go_wp2_with fail);refine (bad_calls s b st1 t w3 hsz H3.out).mono ?_;rintro e w4 ⟨rfl,h4,hst4⟩;have H4:=Lib.hid h4;have HS4:=Lib.hid (HS3.out.trans hst4);clear h4 hst4 c0 c1 c2 c3 c4;go_wp2;go_end0;rw [HM2.out];exact ⟨rfl,H4.out,HS4.out⟩
end Go.Proofs.YtkbjblhompkdkaaDoor

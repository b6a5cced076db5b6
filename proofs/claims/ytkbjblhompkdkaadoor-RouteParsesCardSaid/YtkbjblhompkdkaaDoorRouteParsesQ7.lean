/- YtkbjblhompkdkaaDoorRouteParsesQ7: PBx3, RouteRead, RouteSlice, RouteFilt -/
import Derived.Test.YtkbjblhompkdkaaDoorRouteParsesQ6
namespace Go.Proofs.YtkbjblhompkdkaaDoor.PB
open Go.Proofs.YtkbjblhompkdkaaDoor.PA
open Go.RowKit Go.Proofs.YtkbjblhompkdkaaDoorW.PrintWords Go.Proofs.YtkbjblhompkdkaaDoorW.PrintLast
set_option linter.unusedVariables false
set_option linter.unusedSimpArgs false
def route_is.f (a0_0:Int) (a0_1:Int) (a0_2:Int) (a0_3:Int) (a0_4:ByteArray) (a1:ByteArray):Option (Bool):=if a0_0=1 then (some (a0_4.toList == a1.toList)) else (some false)
set_option maxHeartbeats 8000000 in
set_option maxRecDepth 100000 in
theorem route_is.calls (a0_0:Int) (a0_1:Int) (a0_2:Int) (a0_3:Int) (a0_4:ByteArray) (a1:ByteArray) (r:Bool) (w:World) (h:route_is.f a0_0 a0_1 a0_2 a0_3 a0_4 a1=some r) :
  Calls Tryd.prog 61 #[.agg #[.int .i64 a0_0,.int .i64 a0_1,.int .i64 a0_2,.int .i64 a0_3,.string a0_4],.string a1] w fun e w'=>e = .returned (.bool r)∧Below w.heap.size w w':=by
 have hu24:=Tryd.underlying24;have HB:=Aside0.mk (Below.refl w.heap.size w);have H:(if a0_0=1 then (some (a0_4.toList == a1.toList)) else (some false))=some r:=h;clear h;by_cases c3:a0_0=1
 ·rw [if_pos c3] at H;have c3b0:(a0_0 == 1)=true:=beq_iff_eq.mpr c3;have c3b1:(a0_0 != 1)=false:=bne_eq_false_iff_eq.mpr c3;clear c3;obtain rfl:=Option.some.inj H;(go_enter Tryd.func61,Tryd.ntmps61);go_wp2_with (first|((with_reducible refine gate_dst (N:=2) rfl ?_);refine box_event ?hg (N:=2) ?hd (cs:=#[.int .i64 a0_0,.int .i64 a0_1,.int .i64 a0_2,.int .i64 a0_3,.string a0_4]) (t:=24) ?hr ?_;(case hd=>rfl);(case hg=>rfl);(case hr=>first|(go_simp;done)|(go_simp;rfl));intro gb107 hg w4 hbox hb;have n0_:=Aside0.mk (below_step (bw HB.out) hb);have n1_:=Aside0.mk (hbox);have n2_:=Aside0.mk ((by rw [hg];exact (below_size (bw HB.out)):w.heap.size≤gb107));have n3_:=Aside0.mk ((by rw [hg];exact (below_size (bw HB.out)):w.heap.size≤gb107));clear HB;have HB:=n0_;have BK107:=n1_;have GW107:=n2_;have GE107:=n3_;clear n0_ n1_ n2_ n3_;clear hb hbox hg;obtain ⟨hcz5_0,hcz5_1,hcz5_2,hcz5_3,hcz5_4⟩:=cells5 BK107.out;obtain ⟨hfz5_0,hfz5_1,hfz5_2,hfz5_3,hfz5_4⟩:=frozen5 BK107.out));go_ret;exact ⟨by first|rfl|(simp [errW_none,errW_some] <;> rfl)|(simp [*,errW_none,errW_some] <;> rfl),by repeat (first|(with_reducible first|exact HB.out|apply below_alloc|apply pw_below_drewN|apply below_drew1|refine below_set ?_ GE107.out)|exact HB.out)⟩
 ·rw [if_neg c3] at H;have c3b0:(a0_0 == 1)=false:=beq_eq_false_iff_ne.mpr c3;have c3b1:(a0_0 != 1)=true:=bne_iff_ne.mpr c3;obtain rfl:=Option.some.inj H;(go_enter Tryd.func61,Tryd.ntmps61);go_wp2_with (first|((with_reducible refine gate_dst (N:=2) rfl ?_);refine box_event ?hg (N:=2) ?hd (cs:=#[.int .i64 a0_0,.int .i64 a0_1,.int .i64 a0_2,.int .i64 a0_3,.string a0_4]) (t:=24) ?hr ?_;(case hd=>rfl);(case hg=>rfl);(case hr=>first|(go_simp;done)|(go_simp;rfl));intro gb107 hg w6 hbox hb;have n0_:=Aside0.mk (below_step (bw HB.out) hb);have n1_:=Aside0.mk (hbox);have n2_:=Aside0.mk ((by rw [hg];exact (below_size (bw HB.out)):w.heap.size≤gb107));have n3_:=Aside0.mk ((by rw [hg];exact (below_size (bw HB.out)):w.heap.size≤gb107));clear HB;have HB:=n0_;have BK107:=n1_;have GW107:=n2_;have GE107:=n3_;clear n0_ n1_ n2_ n3_;clear hb hbox hg;obtain ⟨hcz7_0,hcz7_1,hcz7_2,hcz7_3,hcz7_4⟩:=cells5 BK107.out;obtain ⟨hfz7_0,hfz7_1,hfz7_2,hfz7_3,hfz7_4⟩:=frozen5 BK107.out));go_ret;exact ⟨by first|rfl|(simp [errW_none,errW_some] <;> rfl)|(simp [*,errW_none,errW_some] <;> rfl),by repeat (first|(with_reducible first|exact HB.out|apply below_alloc|apply pw_below_drewN|apply below_drew1|refine below_set ?_ GE107.out)|exact HB.out)⟩
mutual
def quote_Name.l0:Nat→ByteArray→Int→Int→Option (Bool)
 | 0,_,_,_=>none
 | k+1,x0,x8,x9=>if x9 < x8 then (if 0≤x9 then (if x9 < (x0.size:Int) then (if (bt x0 x9) ≥ 97 then (quote_Name.j1 k x0 x9 (bt x0 x9) x8 x9 (decide ((bt x0 x9)≤122))) else (quote_Name.j1 k x0 x9 (bt x0 x9) x8 x9 false)) else (none)) else (none)) else (some true)
def quote_Name.j1:Nat→ByteArray→Int→Int→Int→Int→Bool→Option (Bool)
 | 0,_,_,_,_,_,_=>none
 | k+1,x0,x3,x4,x8,x9,x15=>if x15=true then (quote_Name.j2 k x0 x3 x4 x8 x9 x15) else (if x4 ≥ 65 then (if x4≤90 then (quote_Name.j2 k x0 x3 x4 x8 x9 (decide (x4≤90))) else (quote_Name.j2 k x0 x3 x4 x8 x9 (x4 == 95))) else (quote_Name.j2 k x0 x3 x4 x8 x9 (x4 == 95)))
def quote_Name.j2:Nat→ByteArray→Int→Int→Int→Int→Bool→Option (Bool)
 | 0,_,_,_,_,_,_=>none
 | k+1,x0,x3,x4,x8,x9,x15=>if x15=true then (quote_Name.l0 k x0 x8 (wrap64 (x9+1))) else (if x3 > 0 then (if x4 ≥ 48 then (if x4≤57 then (quote_Name.l0 k x0 x8 (wrap64 (x9+1))) else (some false)) else (some false)) else (some false))
end
def quote_Name.f (k:Nat) (a0:ByteArray):Option (Bool):=if a0.toList=([]:List UInt8) then (some false) else (quote_Name.l0 k a0 (a0.size:Int) 0)
set_option maxHeartbeats 8000000 in
set_option maxRecDepth 100000 in
theorem quote_Name.calls (k:Nat) (a0:ByteArray) (r:Bool) (w:World) (h:quote_Name.f k a0=some r) :
  Calls Tryd.prog 68 #[.string a0] w fun e w'=>e = .returned (.bool r)∧Drawn0 w w':=by
 have H:(if a0.toList=([]:List UInt8) then (some false) else (quote_Name.l0 k a0 (a0.size:Int) 0))=some r:=h;clear h;by_cases c2:a0.toList=([]:List UInt8)
 ·rw [if_pos c2] at H;have c2b0:(a0.toList == ([]:List UInt8))=true:=beq_iff_eq.mpr c2;have c2b1:(a0.toList != ([]:List UInt8))=false:=bne_eq_false_iff_eq.mpr c2;clear c2;obtain rfl:=Option.some.inj H;(go_enter Tryd.func68,Tryd.ntmps68);go_wp2;go_ret;exact ⟨by first|rfl|(simp;done)|(simp [*];done),by repeat (first|exact Drawn0.refl _|apply Drawn0.step)⟩
 ·rw [if_neg c2] at H;have c2b0:(a0.toList == ([]:List UInt8))=false:=beq_eq_false_iff_ne.mpr c2;have c2b1:(a0.toList != ([]:List UInt8))=true:=bne_iff_ne.mpr c2;have H':=Aside0.mk H;clear H;(go_enter Tryd.func68,Tryd.ntmps68);go_wp2;go_loopg [9] k (fun kq v9 w'=>∃ (x9_1:Int),v9 = .int .i64 x9_1∧Aside0 (quote_Name.l0 kq a0 (a0.size:Int) x9_1=some r)∧Aside0 (kq≤k)∧Drawn0 w w')
  case atStart=>exact ⟨(0),(by first|rfl|(simp;done)|(simp [*];done)),H',⟨Nat.le_refl _⟩,by repeat (first|exact Drawn0.refl _|apply Drawn0.step)⟩
  case round=>
   clear H';(try clear c2);(try clear c2b0);(try clear c2b1);(try clear p2);obtain ⟨x9_1,rfl,HA,HK1,⟨m1,rfl⟩⟩:=hrel;cases gk with
   | zero=>exact absurd HA.out (by simp [quote_Name.l0])
   | succ k1=>
    have H:=HA.out;clear HA;simp only [quote_Name.l0] at H;by_cases c3:x9_1 < (a0.size:Int)
    ·rw [if_pos c3] at H;have c3b0:decide (x9_1 < (a0.size:Int))=true:=decide_eq_true c3;clear c3;by_cases c4:0≤x9_1
     ·rw [if_pos c4] at H;have c4b0:decide (0≤x9_1)=true:=decide_eq_true c4;clear c4;by_cases c5:x9_1 < (a0.size:Int)
      ·rw [if_pos c5] at H;have c5b0:decide (x9_1 < (a0.size:Int))=true:=decide_eq_true c5;clear c5;have HC7:=Aside0.mk H;clear H;have p6:0≤(x9_1:Int):=of_decide_eq_true (by assumption);have q6:x9_1 < (a0.size:Int):=of_decide_eq_true (by assumption);have hx6:=bt_at a0 x9_1;replace p6:=eq_true p6;replace q6:=eq_true q6;(go_upto_region 8 with (fail));go_cut [15] (fun v15 wc=>∃ (kq:Nat) (x15_6:Bool),v15 = .bool x15_6∧Aside0 (quote_Name.j1 kq a0 x9_1 (bt a0 x9_1) (a0.size:Int) x9_1 x15_6=some r)∧Aside0 (kq≤k1)∧Drawn0 w wc)
       case first=>
        have H:=HC7.out;clear HC7;by_cases c8:(bt a0 x9_1) ≥ 97
        ·rw [if_pos c8] at H;have c8b0:decide (97≤(bt a0 x9_1))=true:=decide_eq_true c8;clear c8
         (first|rw [c8b0]|(simp only [i64_w,i32_w];rw [c8b0])|skip)
         have H':=Aside0.mk H;clear H;go_wp2;go_meet
         case rel=>exact ⟨_,(decide ((bt a0 x9_1)≤122)),(by first|rfl|(simp;done)|(simp [*];done)),H',⟨by have:=HK1.out;first|omega|exact Nat.le_refl _⟩,by repeat (first|exact Drawn0.refl _|apply Drawn0.step)⟩
        ·rw [if_neg c8] at H;have c8b0:decide (97≤(bt a0 x9_1))=false:=decide_eq_false c8;clear c8
         (first|rw [c8b0]|(simp only [i64_w,i32_w];rw [c8b0])|skip)
         have H':=Aside0.mk H;clear H;go_wp2;go_meet
         case rel=>exact ⟨_,(false),(by first|rfl|(simp;done)|(simp [*];done)),H',⟨by have:=HK1.out;first|omega|exact Nat.le_refl _⟩,by repeat (first|exact Drawn0.refl _|apply Drawn0.step)⟩
       case rest=>
        clear HC7;(try clear c2);(try clear c2b0);(try clear c2b1);(try clear p2);(try clear c3);(try clear c3b0);(try clear c4);(try clear c4b0);(try clear c5);(try clear c5b0);(try clear c6);(try clear p6);(try clear q6);(try clear hx6);(try clear c8);(try clear c8b0);(try clear p2);(try clear p6);(try clear q6);obtain ⟨kq,x15_6,rfl,HA,HJ6,⟨mc6,rfl⟩⟩:=hcut;cases kq with
        | zero=>exact absurd HA.out (by simp [quote_Name.j1])
        | succ kj6=>
         have H:=HA.out;clear HA;simp only [quote_Name.j1] at H;have HC9:=Aside0.mk H;clear H;go_upto_if 15 with (fail)
         go_cut [15] (fun v15 wc=>∃ (kq:Nat) (x15_8:Bool),v15 = .bool x15_8∧Aside0 (quote_Name.j2 kq a0 x9_1 (bt a0 x9_1) (a0.size:Int) x9_1 x15_8=some r)∧Aside0 (kq≤kj6)∧Drawn0 w wc)
         case first=>
          have H:=HC9.out;clear HC9;by_cases c10:x15_6=true
          ·subst c10;(have H1:(quote_Name.j2 kj6 a0 x9_1 (bt a0 x9_1) (a0.size:Int) x9_1 true)=some r:=by rw [if_pos rfl] at H;exact H);clear H;have H:=H1;clear H1;have H':=Aside0.mk H;clear H;go_wp2;go_meet
           case rel=>exact ⟨_,(true),(by first|rfl|(simp;done)|(simp [*];done)),H',⟨by have:=HK1.out;have:=HJ6.out;first|omega|exact Nat.le_refl _⟩,by repeat (first|exact Drawn0.refl _|apply Drawn0.step)⟩
          ·replace c10:=Bool.eq_false_iff.mpr c10;subst c10;(have H1:(if (bt a0 x9_1) ≥ 65 then (if (bt a0 x9_1)≤90 then (quote_Name.j2 kj6 a0 x9_1 (bt a0 x9_1) (a0.size:Int) x9_1 (decide ((bt a0 x9_1)≤90))) else (quote_Name.j2 kj6 a0 x9_1 (bt a0 x9_1) (a0.size:Int) x9_1 ((bt a0 x9_1) == 95))) else (quote_Name.j2 kj6 a0 x9_1 (bt a0 x9_1) (a0.size:Int) x9_1 ((bt a0 x9_1) == 95)))=some r:=by rw [if_neg (show ¬ (false=true) by decide)] at H;exact H);clear H;have H:=H1;clear H1;by_cases c11:(bt a0 x9_1) ≥ 65
           ·rw [if_pos c11] at H;have c11b0:decide (65≤(bt a0 x9_1))=true:=decide_eq_true c11;clear c11
            (first|rw [c11b0]|(simp only [i64_w,i32_w];rw [c11b0])|skip)
            by_cases c12:(bt a0 x9_1)≤90
            ·rw [if_pos c12] at H;have c12b0:decide ((bt a0 x9_1)≤90)=true:=decide_eq_true c12;clear c12;have H':=Aside0.mk H;clear H;go_wp2;go_meet
             case rel=>exact ⟨_,(decide ((bt a0 x9_1)≤90)),(by first|rfl|(simp;done)|(simp [*];done)),H',⟨by have:=HK1.out;have:=HJ6.out;first|omega|exact Nat.le_refl _⟩,by repeat (first|exact Drawn0.refl _|apply Drawn0.step)⟩
            ·rw [if_neg c12] at H;have c12b0:decide ((bt a0 x9_1)≤90)=false:=decide_eq_false c12;clear c12;have H':=Aside0.mk H;clear H;go_wp2;go_meet
             case rel=>exact ⟨_,(((bt a0 x9_1) == 95)),(by first|rfl|(simp;done)|(simp [*];done)),H',⟨by have:=HK1.out;have:=HJ6.out;first|omega|exact Nat.le_refl _⟩,by repeat (first|exact Drawn0.refl _|apply Drawn0.step)⟩
           ·rw [if_neg c11] at H;have c11b0:decide (65≤(bt a0 x9_1))=false:=decide_eq_false c11;clear c11
            (first|rw [c11b0]|(simp only [i64_w,i32_w];rw [c11b0])|skip)
            have H':=Aside0.mk H;clear H;go_wp2;go_meet
            case rel=>exact ⟨_,(((bt a0 x9_1) == 95)),(by first|rfl|(simp;done)|(simp [*];done)),H',⟨by have:=HK1.out;have:=HJ6.out;first|omega|exact Nat.le_refl _⟩,by repeat (first|exact Drawn0.refl _|apply Drawn0.step)⟩
         case rest=>
          clear HC9;(try clear c1);(try clear c2);(try clear c2b0);(try clear c2b1);(try clear p2);(try clear c3);(try clear c3b0);(try clear c4);(try clear c4b0);(try clear c5);(try clear c5b0);(try clear c6);(try clear p6);(try clear q6);(try clear hx6);(try clear c8);(try clear c8b0);(try clear c10);(try clear c11);(try clear c11b0);(try clear c12);(try clear c12b0);(try clear p2);(try clear p6);(try clear q6);obtain ⟨kq,x15_8,rfl,HA,HJ8,⟨mc8,rfl⟩⟩:=hcut;cases kq with
          | zero=>exact absurd HA.out (by simp [quote_Name.j2])
          | succ kj8=>
           have H:=HA.out;clear HA;simp only [quote_Name.j2] at H;by_cases c13:x15_8=true
           ·subst c13;(have H1:(quote_Name.l0 kj8 a0 (a0.size:Int) (wrap64 (x9_1+1)))=some r:=by rw [if_pos rfl] at H;exact H);clear H;have H:=H1;clear H1;have H':=Aside0.mk H;clear H;go_wp2;go_roundg kj8
            case measure=>have:=HK1.out;have:=HJ6.out;have:=HJ8.out;omega
            case rel=>exact ⟨(wrap64 (x9_1+1)),(by first|rfl|(simp;done)|(simp [*];done)),H',⟨by have:=HK1.out;have:=HJ6.out;have:=HJ8.out;omega⟩,by repeat (first|exact Drawn0.refl _|apply Drawn0.step)⟩
           ·replace c13:=Bool.eq_false_iff.mpr c13;subst c13;(have H1:(if x9_1 > 0 then (if (bt a0 x9_1) ≥ 48 then (if (bt a0 x9_1)≤57 then (quote_Name.l0 kj8 a0 (a0.size:Int) (wrap64 (x9_1+1))) else (some false)) else (some false)) else (some false))=some r:=by rw [if_neg (show ¬ (false=true) by decide)] at H;exact H);clear H;have H:=H1;clear H1;by_cases c14:x9_1 > 0
            ·rw [if_pos c14] at H;have c14b0:decide (0 < x9_1)=true:=decide_eq_true c14;clear c14;by_cases c15:(bt a0 x9_1) ≥ 48
             ·rw [if_pos c15] at H;have c15b0:decide (48≤(bt a0 x9_1))=true:=decide_eq_true c15;clear c15;by_cases c16:(bt a0 x9_1)≤57
              ·rw [if_pos c16] at H;have c16b0:decide ((bt a0 x9_1)≤57)=true:=decide_eq_true c16;clear c16;have H':=Aside0.mk H;clear H;go_wp2;go_roundg kj8
               case measure=>have:=HK1.out;have:=HJ6.out;have:=HJ8.out;omega
               case rel=>exact ⟨(wrap64 (x9_1+1)),(by first|rfl|(simp;done)|(simp [*];done)),H',⟨by have:=HK1.out;have:=HJ6.out;have:=HJ8.out;omega⟩,by repeat (first|exact Drawn0.refl _|apply Drawn0.step)⟩
              ·rw [if_neg c16] at H;have c16b0:decide ((bt a0 x9_1)≤57)=false:=decide_eq_false c16;clear c16;obtain rfl:=Option.some.inj H;go_wp2;go_ret;exact ⟨by first|rfl|(simp;done)|(simp [*];done),by repeat (first|exact Drawn0.refl _|apply Drawn0.step)⟩
             ·rw [if_neg c15] at H;have c15b0:decide (48≤(bt a0 x9_1))=false:=decide_eq_false c15;clear c15;obtain rfl:=Option.some.inj H;go_wp2;go_ret;exact ⟨by first|rfl|(simp;done)|(simp [*];done),by repeat (first|exact Drawn0.refl _|apply Drawn0.step)⟩
            ·rw [if_neg c14] at H;have c14b0:decide (0 < x9_1)=false:=decide_eq_false c14;clear c14;obtain rfl:=Option.some.inj H;go_wp2;go_ret;exact ⟨by first|rfl|(simp;done)|(simp [*];done),by repeat (first|exact Drawn0.refl _|apply Drawn0.step)⟩
      ·rw [if_neg c5] at H;exact absurd H (by simp)
     ·rw [if_neg c4] at H;exact absurd H (by simp)
    ·rw [if_neg c3] at H;have c3b0:decide (x9_1 < (a0.size:Int))=false:=decide_eq_false c3;clear c3;obtain rfl:=Option.some.inj H;go_wp2;go_ret;exact ⟨by first|rfl|(simp;done)|(simp [*];done),by repeat (first|exact Drawn0.refl _|apply Drawn0.step)⟩
def route_end.f (a0:Int) (a1:Int):Option (ByteArray):=if a0=a1 then (some (⟨#[]⟩:ByteArray)) else ((num_Digits.f a0).bind fun t110=>(some t110))
set_option maxHeartbeats 8000000 in
set_option maxRecDepth 100000 in
theorem route_end.calls (a0:Int) (a1:Int) (r:ByteArray) (w:World) (h:route_end.f a0 a1=some r) :
  Calls Tryd.prog 69 #[.int .i64 a0,.int .i64 a1] w fun e w'=>e = .returned (.string r)∧Below w.heap.size w w':=by
 have HB:=Aside0.mk (Below.refl w.heap.size w);have H:(if a0=a1 then (some (⟨#[]⟩:ByteArray)) else ((num_Digits.f a0).bind fun t110=>(some t110)))=some r:=h;clear h;by_cases c3:a0=a1
 ·rw [if_pos c3] at H;have c3b0:(a0 == a1)=true:=beq_iff_eq.mpr c3;have c3b1:(a0 != a1)=false:=bne_eq_false_iff_eq.mpr c3;clear c3;obtain rfl:=Option.some.inj H;(go_enter Tryd.func69,Tryd.ntmps69);go_wp2;go_ret;exact ⟨by first|rfl|(simp [errW_none,errW_some] <;> rfl)|(simp [*,errW_none,errW_some] <;> rfl),bw HB.out⟩
 ·rw [if_neg c3] at H;have c3b0:(a0 == a1)=false:=beq_eq_false_iff_ne.mpr c3;have c3b1:(a0 != a1)=true:=bne_iff_ne.mpr c3;replace H:=Option.bind_eq_some_iff.mp H;obtain ⟨t110,A40,H⟩:=H;replace H:(some t110)=some r:=H;have A4:=Aside0.mk A40;clear A40;obtain rfl:=Option.some.inj H;(go_enter Tryd.func69,Tryd.ntmps69);go_wp2_with (first|((with_reducible refine gate_callee (f:=57) rfl ?_);refine goesL_ (some 9) rfl rfl Tryd.func57 (by kernel_rfl) rfl #[.int .i64 a0] rfl (by (try simp only [List.map_toArray,List.map_cons,List.map_nil]);first|done|rfl|(simp only [List.length_drop,List.length_take];rfl)) ?_;(with_reducible refine (num_Digits.calls a0 t110 _ A4.out).mono ?_);rintro e w5 ⟨rfl,hb⟩;refine ⟨_,rfl,?_⟩;have n0_:=Aside0.mk (below_step (bw HB.out) hb);clear HB;have HB:=n0_;clear n0_;(try clear hb);(try clear hb2);(try clear hk);(try clear hi)));go_ret;exact ⟨by first|rfl|(simp [errW_none,errW_some] <;> rfl)|(simp [*,errW_none,errW_some] <;> rfl),bw HB.out⟩
end Go.Proofs.YtkbjblhompkdkaaDoor.PB
namespace Go.Proofs.YtkbjblhompkdkaaDoor
open Go.RowKit Go.Proofs.YtkbjblhompkdkaaDoor.PA Go.Proofs.YtkbjblhompkdkaaDoor.PB Go.Proofs.YtkbjblhompkdkaaDoorW.PrintWords Go.Proofs.YtkbjblhompkdkaaDoorW.PrintLast
set_option linter.unusedVariables false
set_option linter.unusedSimpArgs false
def RSt (w:World) (b:Nat) (s:ByteArray):Pure.St→Prop
 | .inl a=>a≤s.size∧w.heap[b]? = some (.cells #[.string s,.int .i64 (a:Int),.nilIface] 89 (0,0))
 | .inr (p,c)=>∃ (x:Int) (T:TypeId) (u:Value),w.heap[b]? = some (.cells #[.string s,.int .i64 x,.iface T u] 89 (0,0))∧Err w (.iface T u) [(p:Int)] (some c)
theorem RSt.lt {w:World} {b:Nat} {s:ByteArray} {st:Pure.St} (h:RSt w b s st):b < w.heap.size:=by
 cases st with
 | inl a=>exact blk_lt h.2
 | inr e=>obtain ⟨x,T,u,h1,-⟩:=h;exact blk_lt h1
theorem RSt.below {w w':World} {b:Nat} {s:ByteArray} {st:Pure.St} (h:RSt w b s st) (hb:Below w.heap.size w w'):RSt w' b s st:=by
 cases st with
 | inl a=>exact ⟨h.1,blk_below h.2 hb⟩
 | inr e=>obtain ⟨x,T,u,h1,h2⟩:=h;exact ⟨x,T,u,blk_below h1 hb,h2.below hb (Nat.le_refl _)⟩
def Step (w w':World) (b:Nat):Prop:=Below b w w'∧KeepBut w w' b none
theorem Step.of_below {w w':World} {b:Nat} (hb:Below w.heap.size w w') (h:b < w.heap.size):Step w w' b:=⟨hb.mono (Nat.le_of_lt h),KeepBut.of_below hb b none⟩
theorem Step.trans {w w1 w2:World} {b:Nat} (h:Step w w1 b) (k:Step w1 w2 b):Step w w2 b:=⟨Below.trans h.1 k.1,KeepBut.trans h.2 k.2 (.inl rfl)⟩
theorem Step.blk {w w':World} {b g:Nat} {o:Obj} (h:Step w w' b) (hb:w.heap[g]? = some o) (hg:g ≠ b):w'.heap[g]? = some o:=h.2.blk hb hg (by simp)
theorem Signs.step {w w':World} {b:Nat} (h:Signs w) (hb:Step w w' b) (hn:0 < b):Signs w':=fun i x hx=>(hb.1.cell (show 0 < b from hn)).trans (h i x hx)
theorem results_c {P:Program} {fn:Func} {p:Tmp} {ty:TypeId} (h:fn.results = #[.cell p ty]) (tmps:Array Value) (w:World) (g:Nat) (t:TypeId) (cs:Array Value) (fr:Nat × Nat) (d:TypeDesc)
  (hp:tmps.getD p undef = .pointer (some ⟨g,0,none⟩)) (hg:w.heap[g]? = some (.cells cs t fr))
  (hu:P.underlying ty=some d) (hd:(match d with|.struct _|.array _ _=>true|_=>false)=true) (hi:(P.info? ty).map (·.size)=some cs.size) :
  (results fn tmps).run P w = .ok (.agg cs) w:=by
 (have hp':tmps[p]?.getD undef = .pointer (some ⟨g,0,none⟩):=by simpa using hp);simp [results,h,hp',asAddr,run_loadVar_row w g t ty cs fr d hg hu hd hi]
set_option maxRecDepth 100000 in
set_option maxHeartbeats 4000000 in
theorem rnext_err (s:ByteArray) (b p:Nat) (c:Int) (w:World) (h:RSt w b s (.inr (p,c))) :
  Calls Tryd.prog 65 #[.pointer (some ⟨b,0,none⟩)] w fun e w'=>e = .returned (tokV Pure.tok0)∧RSt w' b s (.inr (p,c))∧Step w w' b:=by
 obtain ⟨x,T,u,hb,he⟩:=h;have HB:=Lib.hid hb;have HE:=Lib.hid he;have hbw:=below_alloc (Below.refl w.heap.size w) (.cells #[.int .i64 0,.int .i64 0,.int .i64 0,.int .i64 0,.string ⟨#[]⟩] 24);have k2:=(blk_cell (blk_below hb hbw) 2).trans (show _=some (.iface T u) from rfl);clear he;(go_enter Tryd.func65,Tryd.ntmps65);go_wp2;refine bodyPost_ret (results_c rfl _ _ w.heap.size 24 _ (0,0) _ rfl (blk_new w _) Tryd.underlying24 rfl (by kernel_rfl)) rfl ?_;exact ⟨rfl,⟨x,T,u,blk_below HB.out hbw,HE.out.below hbw (Nat.le_refl _)⟩,Step.of_below hbw (blk_lt HB.out)⟩
theorem far5 {W:World} {g k:Nat} {o:Obj} (x0 x1 x2 x3 x4:Value) (hk:k ≠ g) (h:W.heap[k]? = some o) :
  (((((W.setCell ⟨g,0,none⟩ x0).setCell ⟨g,1,none⟩ x1).setCell ⟨g,2,none⟩ x2).setCell ⟨g,3,none⟩ x3).setCell ⟨g,4,none⟩ x4).heap[k]? = some o:=by
 have far:∀ (W:World) (j:Nat) (v:Value),W.heap[k]? = some o→(W.setCell ⟨g,j,none⟩ v).heap[k]? = some o:=fun W j v h=>(Below.heap_setCell W ⟨g,j,none⟩ v k hk).trans h;exact far _ _ _ (far _ _ _ (far _ _ _ (far _ _ _ (far _ _ _ h))))
theorem Step.set5 {w W:World} {b g:Nat} (x0 x1 x2 x3 x4:Value) (h:Step w W b) (hb:b≤w.heap.size) (hg:w.heap.size≤g:=by exact Nat.le_refl _) :
  Step w (((((W.setCell ⟨g,0,none⟩ x0).setCell ⟨g,1,none⟩ x1).setCell ⟨g,2,none⟩ x2).setCell ⟨g,3,none⟩ x3).setCell ⟨g,4,none⟩ x4) b:=by
 have st:∀ (W:World) (j:Nat) (v:Value),Step w W b→Step w (W.setCell ⟨g,j,none⟩ v) b:=fun W j v h=>⟨h.1.setCell (Nat.le_trans hb hg) _,keep_far h.2 hg v⟩;exact st _ _ _ (st _ _ _ (st _ _ _ (st _ _ _ (st _ _ _ h))))
def NInv (w:World) (b:Nat) (s:ByteArray) (a:Nat) (w':World):Prop:=
 Below w.heap.size w w'∧w'.heap[b]? = some (.cells #[.string s,.int .i64 (a:Int),.nilIface] 89 (0,0))∧w'.heap[w.heap.size]? = some (.cells z24 24 (0,0))∧Signs w'
theorem NInv.step {w w1 w2:World} {b a:Nat} {s:ByteArray} (h:NInv w b s a w1) (hb:Below w1.heap.size w1 w2):NInv w b s a w2:=
 ⟨below_then h.1 h.1.size hb,blk_below h.2.1 hb,blk_below h.2.2.1 hb,h.2.2.2.below hb (Nat.le_refl _)⟩
theorem NInv.drew {w w1:World} {b a:Nat} {s:ByteArray} (h:NInv w b s a w1):NInv w b s a w1.drew:=⟨below_drew h.1,h.2.1,h.2.2.1,h.2.2.2⟩
theorem NInv.alloc {w w1:World} {b a:Nat} {s:ByteArray} (h:NInv w b s a w1) :
  NInv w b s a (w1.alloc (.cells #[.int .i64 0,.int .i64 0,.int .i64 0,.int .i64 0,.string ⟨#[]⟩] 24))∧(w1.alloc (.cells #[.int .i64 0,.int .i64 0,.int .i64 0,.int .i64 0,.string ⟨#[]⟩] 24)).heap[w1.heap.size]? = some (.cells #[.int .i64 0,.int .i64 0,.int .i64 0,.int .i64 0,.string ⟨#[]⟩] 24 (0,0))∧w.heap.size < w1.heap.size:=
 ⟨h.step (below_alloc (Below.refl _ _) _),blk_new _ _,blk_lt h.2.2.1⟩
theorem NInv.set5 {w w1:World} {b a g:Nat} {s:ByteArray} (x0 x1 x2 x3 x4:Value) (h:NInv w b s a w1) (hb:b < w.heap.size) (hs:0 < w.heap.size) (hg:w.heap.size < g) :
  NInv w b s a (((((w1.setCell ⟨g,0,none⟩ x0).setCell ⟨g,1,none⟩ x1).setCell ⟨g,2,none⟩ x2).setCell ⟨g,3,none⟩ x3).setCell ⟨g,4,none⟩ x4):=by
 have far:∀ (W:World) (k:Nat) (o:Obj) (j:Nat) (v:Value),k ≠ g→W.heap[k]? = some o→(W.setCell ⟨g,j,none⟩ v).heap[k]? = some o:=fun W k o j v hk h=>(Below.heap_setCell W ⟨g,j,none⟩ v k hk).trans h;refine ⟨below5 _ _ _ _ _ h.1 (Nat.le_of_lt hg),?_,?_,fun i x hx=>?_⟩
 ·exact far _ _ _ _ _ (by omega) (far _ _ _ _ _ (by omega) (far _ _ _ _ _ (by omega) (far _ _ _ _ _ (by omega) (far _ _ _ _ _ (by omega) h.2.1))))
 ·exact far _ _ _ _ _ (by omega) (far _ _ _ _ _ (by omega) (far _ _ _ _ _ (by omega) (far _ _ _ _ _ (by omega) (far _ _ _ _ _ (by omega) h.2.2.1))))
 ·(have hne:(0:Nat) ≠ g:=by omega);rw [cell_far _ _ _ _ hne,cell_far _ _ _ _ hne,cell_far _ _ _ _ hne,cell_far _ _ _ _ hne,cell_far _ _ _ _ hne];exact h.2.2.2 i x hx
theorem next_at {s:ByteArray} {a:Nat} (ha:a≤s.size):nextI (bytesOf s) (a:Int)=Pure.nextS (bytesOf s) a:=by
 unfold nextI;rw [if_neg (by rw [bytesOf_length];omega)];rfl
theorem next_tok (s:ByteArray) (a:Nat) (t:Pure.Tok) (hr:Pure.nextS (bytesOf s) a = .inl t) (ha:a≤s.size) (w:World) (hs:Signs w) (hsz:s.size≤140737488351232) :
  Calls Tryd.prog 16 #[.string s,.int .i64 (a:Int)] w fun e w'=>e = .returned (.tuple #[.agg #[.int .i64 t.kind,.int .i64 (t.at_:Int),.int .i64 (t.end_:Int),.int .i64 t.n,.string (strOfNums t.text)],.nilIface])∧Below w.heap.size w w':=by
 have h:=next_calls s (a:Int) w hs hsz;rw [next_at ha,hr] at h;exact h
theorem next_bad (s:ByteArray) (a p:Nat) (c:Int) (hr:Pure.nextS (bytesOf s) a = .inr (p,c)) (ha:a≤s.size) (w:World) (hs:Signs w) (hsz:s.size≤140737488351232) :
  Calls Tryd.prog 16 #[.string s,.int .i64 (a:Int)] w fun e w'=>∃ T u,e = .returned (.tuple #[.agg #[.int .i64 0,.int .i64 0,.int .i64 0,.int .i64 0,.string ⟨#[]⟩],.iface T u])∧Err w' (.iface T u) [(p:Int)] (some c)∧Below w.heap.size w w':=by
 have h:=next_calls s (a:Int) w hs hsz;rw [next_at ha,hr] at h;refine h.mono ?_;rintro e w' ⟨⟨v,rfl,he⟩,hb⟩;obtain ⟨T,x,rfl⟩:=he.iface (.inl (by simp));exact ⟨T,x,rfl,he,hb⟩
set_option maxRecDepth 100000 in
set_option maxHeartbeats 8000000 in
theorem rnext_tok (s:ByteArray) (b a:Nat) (t:Pure.Tok) (hr:Pure.nextS (bytesOf s) a = .inl t) (w:World) (hs:Signs w) (hsz:s.size≤140737488351232) (h:RSt w b s (.inl a)) :
  Calls Tryd.prog 65 #[.pointer (some ⟨b,0,none⟩)] w fun e w'=>e = .returned (tokV t)∧RSt w' b s (.inl t.end_)∧Step w w' b:=by
 obtain ⟨ha,hb⟩:=h;have HBL:=Lib.hid (blk_lt hb);have HSL:=Lib.hid hs.lt;have HRES:=Lib.hid hr;have hba:=below_alloc (Below.refl w.heap.size w) (.cells #[.int .i64 0,.int .i64 0,.int .i64 0,.int .i64 0,.string ⟨#[]⟩] 24);have NI0:=Lib.hid (show NInv w b s a (w.alloc (.cells #[.int .i64 0,.int .i64 0,.int .i64 0,.int .i64 0,.string ⟨#[]⟩] 24)) from ⟨hba,blk_below hb hba,blk_new w _,hs.below hba (Nat.le_refl _)⟩);have k2:=(blk_cell NI0.out.2.1 2).trans (show _=some .nilIface from rfl);clear hb hs hr hba;(go_enter Tryd.func65,Tryd.ntmps65);(go_upto_region 3 with (fail));clear k2;generalize (w.alloc (.cells #[.int .i64 0,.int .i64 0,.int .i64 0,.int .i64 0,.string ⟨#[]⟩] 24))=W0 at *
 refine start_ (n:=15) (S:=fun w'=>w'.cell? ⟨b,0,none⟩=some (.string s)∧w'.cell? ⟨b,1,none⟩=some (.int .i64 (a:Int))∧NInv w b s a w') (ds:=[]) #[false,false,false,false,false,false,false,false,false,false,false,false,false,false,false] (by kernel_rfl) rfl rfl ⟨(blk_cell NI0.out.2.1 0).trans rfl,(blk_cell NI0.out.2.1 1).trans rfl,NI0.out.drew⟩ (fun hHeld=>?_);refine pure_ (i:=0) (N:=some 12) (v:=?_) (a':=?_) #[true,false,false,false,false,false,false,false,false,false,false,false,false,false,false] rfl rfl (by kernel_rfl) (fun _ _ _ h=>h) (Or.inl ⟨by rfl,?_⟩) ?_ ?_;rotate_left
 ·intro w';go_simp;with_reducible rfl
 rotate_left
 ·simp only [Act.put,List.setIfInBounds_toArray,List.set_cons_zero,List.set_cons_succ,i64_w,i32_w];rfl
 refine pure_ (i:=1) (N:=some 13) (v:=?_) (a':=?_) #[true,true,false,false,false,false,false,false,false,false,false,false,false,false,false] rfl rfl (by kernel_rfl) (fun _ _ _ h=>h) (Or.inl ⟨by rfl,?_⟩) ?_ ?_;rotate_left
 ·intro w';go_simp;with_reducible rfl
 rotate_left
 ·simp only [Act.put,List.setIfInBounds_toArray,List.set_cons_zero,List.set_cons_succ,i64_w,i32_w];rfl
 refine pure_ (i:=2) (N:=some 14) (v:=?_) (a':=?_) #[true,true,true,false,false,false,false,false,false,false,false,false,false,false,false] rfl rfl (by kernel_rfl) (fun _ _ _ h=>h) (Or.inl ⟨by rfl,?_⟩) ?_ ?_;rotate_left
 ·intro w';go_simp;with_reducible rfl
 rotate_left
 ·simp only [Act.put,List.setIfInBounds_toArray,List.set_cons_zero,List.set_cons_succ,i64_w,i32_w];rfl
 refine pure_ (i:=4) (N:=some 16) (v:=?_) (a':=?_) #[true,true,true,false,true,false,false,false,false,false,false,false,false,false,false] rfl rfl (by kernel_rfl) (fun _ _ _ h=>h) (Or.inl ⟨by rfl,?_⟩) ?_ ?_;rotate_left
 ·intro w';go_simp;with_reducible rfl
 rotate_left
 ·simp only [Act.put,List.setIfInBounds_toArray,List.set_cons_zero,List.set_cons_succ,i64_w,i32_w];rfl
 refine pure_ (i:=5) (N:=some 17) (v:=?_) (a':=?_) #[true,true,true,false,true,true,false,false,false,false,false,false,false,false,false] rfl rfl (by kernel_rfl) (fun _ _ _ h=>h) (Or.inl ⟨by rfl,?_⟩) ?_ ?_;rotate_left
 ·intro w';go_simp;with_reducible rfl
 rotate_left
 ·simp only [Act.put,List.setIfInBounds_toArray,List.set_cons_zero,List.set_cons_succ,i64_w,i32_w];rfl
 refine pure_ (i:=6) (N:=some 18) (v:=?_) (a':=?_) #[true,true,true,false,true,true,true,false,false,false,false,false,false,false,false] rfl rfl (by kernel_rfl) (fun _ _ _ h=>h) (Or.inl ⟨by rfl,?_⟩) ?_ ?_;rotate_left
 ·intro w';go_simp;with_reducible rfl
 rotate_left
 ·simp only [Act.put,List.setIfInBounds_toArray,List.set_cons_zero,List.set_cons_succ,i64_w,i32_w];rfl
 refine take_ (i:=3) (N:=some 15) (v:=?_) (a':=?_) #[true,true,true,true,true,true,true,false,false,false,false,false,false,false,false] rfl rfl (by kernel_rfl) (fun _ _ _ h=>h) (Or.inl ⟨by rfl,?_⟩) hHeld ?_ ?_;rotate_left
 ·rintro w' ⟨s0,s1,s2⟩;go_simp;with_reducible rfl
 rotate_left
 ·simp only [Act.put,List.setIfInBounds_toArray,List.set_cons_zero,List.set_cons_succ,i64_w,i32_w];rfl
 refine take_ (i:=7) (N:=some 19) (v:=?_) (a':=?_) #[true,true,true,true,true,true,true,true,false,false,false,false,false,false,false] rfl rfl (by kernel_rfl) (fun _ _ _ h=>h) (Or.inl ⟨by rfl,?_⟩) hHeld ?_ ?_;rotate_left
 ·rintro w' ⟨s0,s1,s2⟩;go_simp;with_reducible rfl
 rotate_left
 ·simp only [Act.put,List.setIfInBounds_toArray,List.set_cons_zero,List.set_cons_succ,i64_w,i32_w];rfl
 refine join_ (σ:=Nat) 2 #[true,true,true,true,true,true,true,true,true,true,true,true,true,false,false] (fun g=>[(20,.tuple #[.agg #[.int .i64 t.kind,.int .i64 (t.at_:Int),.int .i64 (t.end_:Int),.int .i64 t.n,.string (strOfNums t.text)],.nilIface]),(3,.pointer (some ⟨g,0,none⟩)),(11,.tuple #[.agg #[.int .i64 t.kind,.int .i64 (t.at_:Int),.int .i64 (t.end_:Int),.int .i64 t.n,.string (strOfNums t.text)],.nilIface]),(21,.agg #[.int .i64 t.kind,.int .i64 (t.at_:Int),.int .i64 (t.end_:Int),.int .i64 t.n,.string (strOfNums t.text)]),(22,.nilIface)]) (fun g w'=>(w'.cell? ⟨b,0,none⟩=some (.string s)∧w'.cell? ⟨b,1,none⟩=some (.int .i64 (a:Int))∧NInv w b s a w')∧w'.heap[g]? = some (.cells #[.int .i64 0,.int .i64 0,.int .i64 0,.int .i64 0,.string ⟨#[]⟩] 24 (0,0))∧w.heap.size < g) ?_ ?_;rotate_left
 ·intro hCont;refine two_ (i:=8) (j:=12) (Ni:=some 20) (Nj:=some 3) #[true,true,true,true,true,true,true,true,true,false,false,false,false,false,false] #[true,true,true,true,true,true,true,true,false,false,false,false,true,false,false] rfl rfl rfl rfl (by kernel_rfl) (by decide) (by decide) (fun K hK=>?_) (fun K hK=>?_)
  ·skip;refine goes_ Tryd.func16 (by kernel_rfl) rfl #[.string s,.int .i64 (a:Int)] (by rfl) rfl rfl (by simp only [List.map_toArray,List.map_cons,List.map_nil];rfl) ?_;refine (next_tok s a t HRES.out ha _ hHeld.2.2.2.2.2 hsz).mono ?_;rintro e w3 ⟨rfl,hb3⟩;refine ⟨_,rfl,?_⟩;have hNI:=NInv.step hHeld.2.2 hb3;refine hK.out _ _ ⟨(blk_cell hNI.2.1 0).trans rfl,(blk_cell hNI.2.1 1).trans rfl,hNI⟩ (fun hHeld=>?_);clear hK K;refine norm_ (a':=?_) ?_ ?_;rotate_left
   ·show Act.put _ (some 20) _=_;simp only [Act.put,List.setIfInBounds_toArray,List.set_cons_zero,List.set_cons_succ,i64_w,i32_w];rfl
   refine pure_ (i:=9) (N:=some 11) (v:=?_) (a':=?_) #[true,true,true,true,true,true,true,true,true,true,false,false,false,false,false] rfl rfl (by kernel_rfl) (fun _ _ _ h=>h) (Or.inl ⟨by rfl,?_⟩) ?_ ?_;rotate_left
   ·intro w';go_simp;with_reducible rfl
   rotate_left
   ·simp only [Act.put,List.setIfInBounds_toArray,List.set_cons_zero,List.set_cons_succ,i64_w,i32_w];rfl
   refine pure_ (i:=10) (N:=some 21) (v:=?_) (a':=?_) #[true,true,true,true,true,true,true,true,true,true,true,false,false,false,false] rfl rfl (by kernel_rfl) (fun _ _ _ h=>h) (Or.inl ⟨by rfl,?_⟩) ?_ ?_;rotate_left
   ·intro w';go_simp;with_reducible rfl
   rotate_left
   ·simp only [Act.put,List.setIfInBounds_toArray,List.set_cons_zero,List.set_cons_succ,i64_w,i32_w];rfl
   refine pure_ (i:=11) (N:=some 22) (v:=?_) (a':=?_) #[true,true,true,true,true,true,true,true,true,true,true,true,false,false,false] rfl rfl (by kernel_rfl) (fun _ _ _ h=>h) (Or.inl ⟨by rfl,?_⟩) ?_ ?_;rotate_left
   ·intro w';go_simp;with_reducible rfl
   rotate_left
   ·simp only [Act.put,List.setIfInBounds_toArray,List.set_cons_zero,List.set_cons_succ,i64_w,i32_w];rfl
   refine one_ (i:=12) (N:=some 3) #[true,true,true,true,true,true,true,true,true,true,true,true,true,false,false] rfl rfl (by kernel_rfl) (by decide) (fun K hK=>?_);refine value_ (w1:=?_) (v:=?_) (by rfl) rfl ?_ ?_;rotate_left 2
   ·go_simp;constructor
    ·rfl
    ·rfl
   obtain ⟨hNI,hGB,hGL⟩:=NInv.alloc hHeld.2.2;refine hK.out _ _ ⟨(blk_cell hNI.2.1 0).trans rfl,(blk_cell hNI.2.1 1).trans rfl,hNI⟩ (fun hHeld=>?_);clear hK K;refine norm_ (a':=?_) ?_ ?_;rotate_left
   ·show Act.put _ (some 3) _=_;simp only [Act.put,List.setIfInBounds_toArray,List.set_cons_zero,List.set_cons_succ,i64_w,i32_w];rfl
   exact norm_ (by first|(simp only [putAll,Act.put,List.setIfInBounds_toArray,List.set_cons_zero,List.set_cons_succ];done)|(simp only [putAll,Act.put,List.setIfInBounds_toArray,List.set_cons_zero,List.set_cons_succ];rfl)) (hCont _ _ ⟨hHeld,hGB,hGL⟩)
  ·skip;refine value_ (w1:=?_) (v:=?_) (by rfl) rfl ?_ ?_;rotate_left 2
   ·go_simp;constructor
    ·rfl
    ·rfl
   obtain ⟨hNI,hGB,hGL⟩:=NInv.alloc hHeld.2.2;refine hK.out _ _ ⟨(blk_cell hNI.2.1 0).trans rfl,(blk_cell hNI.2.1 1).trans rfl,hNI⟩ (fun hHeld=>?_);clear hK K;refine norm_ (a':=?_) ?_ ?_;rotate_left
   ·show Act.put _ (some 3) _=_;simp only [Act.put,List.setIfInBounds_toArray,List.set_cons_zero,List.set_cons_succ,i64_w,i32_w];rfl
   refine one_ (i:=8) (N:=some 20) #[true,true,true,true,true,true,true,true,true,false,false,false,true,false,false] rfl rfl (by kernel_rfl) (by decide) (fun K hK=>?_);refine goes_ Tryd.func16 (by kernel_rfl) rfl #[.string s,.int .i64 (a:Int)] (by rfl) rfl rfl (by simp only [List.map_toArray,List.map_cons,List.map_nil];rfl) ?_;refine (next_tok s a t HRES.out ha _ hHeld.2.2.2.2.2 hsz).mono ?_;rintro e w3 ⟨rfl,hb3⟩;refine ⟨_,rfl,?_⟩;have hNI:=NInv.step hHeld.2.2 hb3;have hGB:=blk_below hGB hb3;refine hK.out _ _ ⟨(blk_cell hNI.2.1 0).trans rfl,(blk_cell hNI.2.1 1).trans rfl,hNI⟩ (fun hHeld=>?_);clear hK K;refine norm_ (a':=?_) ?_ ?_;rotate_left
   ·show Act.put _ (some 20) _=_;simp only [Act.put,List.setIfInBounds_toArray,List.set_cons_zero,List.set_cons_succ,i64_w,i32_w];rfl
   refine pure_ (i:=9) (N:=some 11) (v:=?_) (a':=?_) #[true,true,true,true,true,true,true,true,true,true,false,false,true,false,false] rfl rfl (by kernel_rfl) (fun _ _ _ h=>h) (Or.inl ⟨by rfl,?_⟩) ?_ ?_;rotate_left
   ·intro w';go_simp;with_reducible rfl
   rotate_left
   ·simp only [Act.put,List.setIfInBounds_toArray,List.set_cons_zero,List.set_cons_succ,i64_w,i32_w];rfl
   refine pure_ (i:=10) (N:=some 21) (v:=?_) (a':=?_) #[true,true,true,true,true,true,true,true,true,true,true,false,true,false,false] rfl rfl (by kernel_rfl) (fun _ _ _ h=>h) (Or.inl ⟨by rfl,?_⟩) ?_ ?_;rotate_left
   ·intro w';go_simp;with_reducible rfl
   rotate_left
   ·simp only [Act.put,List.setIfInBounds_toArray,List.set_cons_zero,List.set_cons_succ,i64_w,i32_w];rfl
   refine pure_ (i:=11) (N:=some 22) (v:=?_) (a':=?_) #[true,true,true,true,true,true,true,true,true,true,true,true,true,false,false] rfl rfl (by kernel_rfl) (fun _ _ _ h=>h) (Or.inl ⟨by rfl,?_⟩) ?_ ?_;rotate_left
   ·intro w';go_simp;with_reducible rfl
   rotate_left
   ·simp only [Act.put,List.setIfInBounds_toArray,List.set_cons_zero,List.set_cons_succ,i64_w,i32_w];rfl
   exact norm_ (by first|(simp only [putAll,Act.put,List.setIfInBounds_toArray,List.set_cons_zero,List.set_cons_succ];done)|(simp only [putAll,Act.put,List.setIfInBounds_toArray,List.set_cons_zero,List.set_cons_succ];rfl)) (hCont _ _ ⟨hHeld,hGB,hGL⟩)
 rintro g w4 ⟨hHeld,hGB,hGL⟩;refine norm_ (a':=?_) ?_ ?_;rotate_left
 ·simp only [putAll,Act.put,List.setIfInBounds_toArray,List.set_cons_zero,List.set_cons_succ];rfl
 refine one_ (i:=13) (N:=none) #[true,true,true,true,true,true,true,true,true,true,true,true,true,true,false] rfl rfl (by kernel_rfl) (by decide) (fun K hK=>?_);obtain ⟨z0,z1,z2,z3,z4⟩:=cells5 hGB;obtain ⟨f0,f1,f2,f3,f4⟩:=frozen5 hGB;refine skip_ (w1:=?_) (by rfl) rfl ?_ ?_;rotate_left
 ·go_simp;rfl
 have hNI:=NInv.set5 (.int .i64 t.kind) (.int .i64 (t.at_:Int)) (.int .i64 (t.end_:Int)) (.int .i64 t.n) (.string (strOfNums t.text)) hHeld.2.2 HBL.out HSL.out hGL;have hTB:=put5 (.int .i64 t.kind) (.int .i64 (t.at_:Int)) (.int .i64 (t.end_:Int)) (.int .i64 t.n) (.string (strOfNums t.text)) hGB;clear z0 f0 z1 f1 z2 f2 z3 f3 z4 f4;refine hK.out _ _ ⟨(blk_cell hNI.2.1 0).trans rfl,(blk_cell hNI.2.1 1).trans rfl,hNI⟩ (fun hHeld=>?_);clear hK K;refine pure_ (i:=14) (N:=some 4) (v:=?_) (a':=?_) #[true,true,true,true,true,true,true,true,true,true,true,true,true,true,true] rfl rfl (by kernel_rfl) (fun _ _ _ h=>h) (Or.inl ⟨by rfl,?_⟩) ?_ ?_;rotate_left
 ·intro w';go_simp;with_reducible rfl
 rotate_left
 ·simp only [Act.put,List.setIfInBounds_toArray,List.set_cons_zero,List.set_cons_succ,i64_w,i32_w];rfl
 refine done_ (by kernel_rfl) ?_;have HTB:=Lib.hid hTB;have HNI:=Lib.hid hNI;have HGL:=Lib.hid hGL;clear hHeld hNI hTB hGB;generalize (((((w4.setCell ⟨g,0,none⟩ (.int .i64 t.kind)).setCell ⟨g,1,none⟩ (.int .i64 (t.at_:Int))).setCell ⟨g,2,none⟩ (.int .i64 (t.end_:Int))).setCell ⟨g,3,none⟩ (.int .i64 t.n)).setCell ⟨g,4,none⟩ (.string (strOfNums t.text)))=w5 at *
 (have hbg:b ≠ g:=by have:=HBL.out;omega);have hlt:=HBL.out;have HOK:=Lib.hid (Pure.nextS_ok (by rw [bytesOf_length];exact ha) HRES.out).2.1;have j1:=(blk_cell HNI.out.2.1 1).trans (show _=some (.int .i64 (a:Int)) from rfl);have j2:=(blk_cell HNI.out.2.1 2).trans (show _=some .nilIface from rfl);have e1:=blk_frozen HNI.out.2.1 1;have e2:=blk_frozen HNI.out.2.1 2;have c2:=(blk_cell HTB.out 2).trans (show _=some (.int .i64 (t.end_:Int)) from rfl);(go_upto_region 5 with (fail));have HTB6:=Lib.hid (show ((w5.setCell ⟨b,1,none⟩ (.int .i64 (t.end_:Int))).setCell ⟨b,2,none⟩ .nilIface).heap[g]? = _ from blk_far (blk_far HTB.out (p:=⟨b,1,none⟩) (Ne.symm hbg) _) (p:=⟨b,2,none⟩) (Ne.symm hbg) _);have HRB6:=Lib.hid (show ((w5.setCell ⟨b,1,none⟩ (.int .i64 (t.end_:Int))).setCell ⟨b,2,none⟩ .nilIface).heap[w.heap.size]? = _ from blk_far (blk_far HNI.out.2.2.1 (p:=⟨b,1,none⟩) (show w.heap.size ≠ b by omega) _) (p:=⟨b,2,none⟩) (show w.heap.size ≠ b by omega) _);have HB6:=Lib.hid (show ((w5.setCell ⟨b,1,none⟩ (.int .i64 (t.end_:Int))).setCell ⟨b,2,none⟩ .nilIface).heap[b]? = some (.cells #[.string s,.int .i64 (t.end_:Int),.nilIface] 89 (0,0)) from blk_put (blk_put HNI.out.2.1 1 _ rfl) 2 _ rfl);have HS6:=Lib.hid (show Step w ((w5.setCell ⟨b,1,none⟩ (.int .i64 (t.end_:Int))).setCell ⟨b,2,none⟩ .nilIface) b from ⟨((HNI.out.1.mono (Nat.le_of_lt hlt)).setCell (Nat.le_refl b) _).setCell (Nat.le_refl b) _,((KeepBut.of_below HNI.out.1 b none).set_ 1 _).set_ 2 _⟩);clear j1 j2 e1 e2 c2;generalize ((w5.setCell ⟨b,1,none⟩ (.int .i64 (t.end_:Int))).setCell ⟨b,2,none⟩ .nilIface)=w6 at *
 obtain ⟨c0,c1,c2,c3,c4⟩:=cells5 HTB6.out;have hblk:=HRB6.out;obtain ⟨k0,k1,k2,k3,k4⟩:=cells5 hblk;obtain ⟨f0,f1,f2,f3,f4⟩:=frozen5 hblk;have HK:=Lib.hid hblk;clear hblk;go_wp2;refine bodyPost_ret (results_c rfl _ _ w.heap.size 24 _ (0,0) _ rfl (put5 _ _ _ _ _ HK.out) Tryd.underlying24 rfl (by kernel_rfl)) rfl ?_;exact ⟨rfl,⟨by rw [← bytesOf_length];exact HOK.out,far5 _ _ _ _ _ (show b ≠ w.heap.size by omega) HB6.out⟩,HS6.out.set5 _ _ _ _ _ (Nat.le_of_lt hlt)⟩
set_option maxRecDepth 100000 in
set_option maxHeartbeats 8000000 in
theorem rnext_bad (s:ByteArray) (b a p:Nat) (c:Int) (hr:Pure.nextS (bytesOf s) a = .inr (p,c)) (w:World) (hs:Signs w) (hsz:s.size≤140737488351232) (h:RSt w b s (.inl a)) :
  Calls Tryd.prog 65 #[.pointer (some ⟨b,0,none⟩)] w fun e w'=>e = .returned (tokV Pure.tok0)∧RSt w' b s (.inr (p,c))∧Step w w' b:=by
 obtain ⟨ha,hb⟩:=h;have HBL:=Lib.hid (blk_lt hb);have HSL:=Lib.hid hs.lt;have HRES:=Lib.hid hr;have hba:=below_alloc (Below.refl w.heap.size w) (.cells #[.int .i64 0,.int .i64 0,.int .i64 0,.int .i64 0,.string ⟨#[]⟩] 24);have NI0:=Lib.hid (show NInv w b s a (w.alloc (.cells #[.int .i64 0,.int .i64 0,.int .i64 0,.int .i64 0,.string ⟨#[]⟩] 24)) from ⟨hba,blk_below hb hba,blk_new w _,hs.below hba (Nat.le_refl _)⟩);have k2:=(blk_cell NI0.out.2.1 2).trans (show _=some .nilIface from rfl);clear hb hs hr hba;(go_enter Tryd.func65,Tryd.ntmps65);(go_upto_region 3 with (fail));clear k2;generalize (w.alloc (.cells #[.int .i64 0,.int .i64 0,.int .i64 0,.int .i64 0,.string ⟨#[]⟩] 24))=W0 at *
 refine start_ (n:=15) (S:=fun w'=>w'.cell? ⟨b,0,none⟩=some (.string s)∧w'.cell? ⟨b,1,none⟩=some (.int .i64 (a:Int))∧NInv w b s a w') (ds:=[]) #[false,false,false,false,false,false,false,false,false,false,false,false,false,false,false] (by kernel_rfl) rfl rfl ⟨(blk_cell NI0.out.2.1 0).trans rfl,(blk_cell NI0.out.2.1 1).trans rfl,NI0.out.drew⟩ (fun hHeld=>?_);refine pure_ (i:=0) (N:=some 12) (v:=?_) (a':=?_) #[true,false,false,false,false,false,false,false,false,false,false,false,false,false,false] rfl rfl (by kernel_rfl) (fun _ _ _ h=>h) (Or.inl ⟨by rfl,?_⟩) ?_ ?_;rotate_left
 ·intro w';go_simp;with_reducible rfl
 rotate_left
 ·simp only [Act.put,List.setIfInBounds_toArray,List.set_cons_zero,List.set_cons_succ,i64_w,i32_w];rfl
 refine pure_ (i:=1) (N:=some 13) (v:=?_) (a':=?_) #[true,true,false,false,false,false,false,false,false,false,false,false,false,false,false] rfl rfl (by kernel_rfl) (fun _ _ _ h=>h) (Or.inl ⟨by rfl,?_⟩) ?_ ?_;rotate_left
 ·intro w';go_simp;with_reducible rfl
 rotate_left
 ·simp only [Act.put,List.setIfInBounds_toArray,List.set_cons_zero,List.set_cons_succ,i64_w,i32_w];rfl
 refine pure_ (i:=2) (N:=some 14) (v:=?_) (a':=?_) #[true,true,true,false,false,false,false,false,false,false,false,false,false,false,false] rfl rfl (by kernel_rfl) (fun _ _ _ h=>h) (Or.inl ⟨by rfl,?_⟩) ?_ ?_;rotate_left
 ·intro w';go_simp;with_reducible rfl
 rotate_left
 ·simp only [Act.put,List.setIfInBounds_toArray,List.set_cons_zero,List.set_cons_succ,i64_w,i32_w];rfl
 refine pure_ (i:=4) (N:=some 16) (v:=?_) (a':=?_) #[true,true,true,false,true,false,false,false,false,false,false,false,false,false,false] rfl rfl (by kernel_rfl) (fun _ _ _ h=>h) (Or.inl ⟨by rfl,?_⟩) ?_ ?_;rotate_left
 ·intro w';go_simp;with_reducible rfl
 rotate_left
 ·simp only [Act.put,List.setIfInBounds_toArray,List.set_cons_zero,List.set_cons_succ,i64_w,i32_w];rfl
 refine pure_ (i:=5) (N:=some 17) (v:=?_) (a':=?_) #[true,true,true,false,true,true,false,false,false,false,false,false,false,false,false] rfl rfl (by kernel_rfl) (fun _ _ _ h=>h) (Or.inl ⟨by rfl,?_⟩) ?_ ?_;rotate_left
 ·intro w';go_simp;with_reducible rfl
 rotate_left
 ·simp only [Act.put,List.setIfInBounds_toArray,List.set_cons_zero,List.set_cons_succ,i64_w,i32_w];rfl
 refine pure_ (i:=6) (N:=some 18) (v:=?_) (a':=?_) #[true,true,true,false,true,true,true,false,false,false,false,false,false,false,false] rfl rfl (by kernel_rfl) (fun _ _ _ h=>h) (Or.inl ⟨by rfl,?_⟩) ?_ ?_;rotate_left
 ·intro w';go_simp;with_reducible rfl
 rotate_left
 ·simp only [Act.put,List.setIfInBounds_toArray,List.set_cons_zero,List.set_cons_succ,i64_w,i32_w];rfl
 refine take_ (i:=3) (N:=some 15) (v:=?_) (a':=?_) #[true,true,true,true,true,true,true,false,false,false,false,false,false,false,false] rfl rfl (by kernel_rfl) (fun _ _ _ h=>h) (Or.inl ⟨by rfl,?_⟩) hHeld ?_ ?_;rotate_left
 ·rintro w' ⟨s0,s1,s2⟩;go_simp;with_reducible rfl
 rotate_left
 ·simp only [Act.put,List.setIfInBounds_toArray,List.set_cons_zero,List.set_cons_succ,i64_w,i32_w];rfl
 refine take_ (i:=7) (N:=some 19) (v:=?_) (a':=?_) #[true,true,true,true,true,true,true,true,false,false,false,false,false,false,false] rfl rfl (by kernel_rfl) (fun _ _ _ h=>h) (Or.inl ⟨by rfl,?_⟩) hHeld ?_ ?_;rotate_left
 ·rintro w' ⟨s0,s1,s2⟩;go_simp;with_reducible rfl
 rotate_left
 ·simp only [Act.put,List.setIfInBounds_toArray,List.set_cons_zero,List.set_cons_succ,i64_w,i32_w];rfl
 refine join_ (σ:=Nat × TypeId × Value) 2 #[true,true,true,true,true,true,true,true,true,true,true,true,true,false,false] (fun g=>[(20,.tuple #[.agg #[.int .i64 0,.int .i64 0,.int .i64 0,.int .i64 0,.string ⟨#[]⟩],.iface g.2.1 g.2.2]),(3,.pointer (some ⟨g.1,0,none⟩)),(11,.tuple #[.agg #[.int .i64 0,.int .i64 0,.int .i64 0,.int .i64 0,.string ⟨#[]⟩],.iface g.2.1 g.2.2]),(21,.agg #[.int .i64 0,.int .i64 0,.int .i64 0,.int .i64 0,.string ⟨#[]⟩]),(22,.iface g.2.1 g.2.2)]) (fun g w'=>(w'.cell? ⟨b,0,none⟩=some (.string s)∧w'.cell? ⟨b,1,none⟩=some (.int .i64 (a:Int))∧NInv w b s a w')∧w'.heap[g.1]? = some (.cells #[.int .i64 0,.int .i64 0,.int .i64 0,.int .i64 0,.string ⟨#[]⟩] 24 (0,0))∧w.heap.size < g.1∧Err w' (.iface g.2.1 g.2.2) [(p:Int)] (some c)) ?_ ?_;rotate_left
 ·intro hCont;refine two_ (i:=8) (j:=12) (Ni:=some 20) (Nj:=some 3) #[true,true,true,true,true,true,true,true,true,false,false,false,false,false,false] #[true,true,true,true,true,true,true,true,false,false,false,false,true,false,false] rfl rfl rfl rfl (by kernel_rfl) (by decide) (by decide) (fun K hK=>?_) (fun K hK=>?_)
  ·skip;refine goes_ Tryd.func16 (by kernel_rfl) rfl #[.string s,.int .i64 (a:Int)] (by rfl) rfl rfl (by simp only [List.map_toArray,List.map_cons,List.map_nil];rfl) ?_;refine (next_bad s a p c HRES.out ha _ hHeld.2.2.2.2.2 hsz).mono ?_;rintro e w3 ⟨T,u,rfl,hER,hb3⟩;refine ⟨_,rfl,?_⟩;have hNI:=NInv.step hHeld.2.2 hb3;refine hK.out _ _ ⟨(blk_cell hNI.2.1 0).trans rfl,(blk_cell hNI.2.1 1).trans rfl,hNI⟩ (fun hHeld=>?_);clear hK K;refine norm_ (a':=?_) ?_ ?_;rotate_left
   ·show Act.put _ (some 20) _=_;simp only [Act.put,List.setIfInBounds_toArray,List.set_cons_zero,List.set_cons_succ,i64_w,i32_w];rfl
   refine pure_ (i:=9) (N:=some 11) (v:=?_) (a':=?_) #[true,true,true,true,true,true,true,true,true,true,false,false,false,false,false] rfl rfl (by kernel_rfl) (fun _ _ _ h=>h) (Or.inl ⟨by rfl,?_⟩) ?_ ?_;rotate_left
   ·intro w';go_simp;with_reducible rfl
   rotate_left
   ·simp only [Act.put,List.setIfInBounds_toArray,List.set_cons_zero,List.set_cons_succ,i64_w,i32_w];rfl
   refine pure_ (i:=10) (N:=some 21) (v:=?_) (a':=?_) #[true,true,true,true,true,true,true,true,true,true,true,false,false,false,false] rfl rfl (by kernel_rfl) (fun _ _ _ h=>h) (Or.inl ⟨by rfl,?_⟩) ?_ ?_;rotate_left
   ·intro w';go_simp;with_reducible rfl
   rotate_left
   ·simp only [Act.put,List.setIfInBounds_toArray,List.set_cons_zero,List.set_cons_succ,i64_w,i32_w];rfl
   refine pure_ (i:=11) (N:=some 22) (v:=?_) (a':=?_) #[true,true,true,true,true,true,true,true,true,true,true,true,false,false,false] rfl rfl (by kernel_rfl) (fun _ _ _ h=>h) (Or.inl ⟨by rfl,?_⟩) ?_ ?_;rotate_left
   ·intro w';go_simp;with_reducible rfl
   rotate_left
   ·simp only [Act.put,List.setIfInBounds_toArray,List.set_cons_zero,List.set_cons_succ,i64_w,i32_w];rfl
   refine one_ (i:=12) (N:=some 3) #[true,true,true,true,true,true,true,true,true,true,true,true,true,false,false] rfl rfl (by kernel_rfl) (by decide) (fun K hK=>?_);refine value_ (w1:=?_) (v:=?_) (by rfl) rfl ?_ ?_;rotate_left 2
   ·go_simp;constructor
    ·rfl
    ·rfl
   obtain ⟨hNI,hGB,hGL⟩:=NInv.alloc hHeld.2.2;have hER:=hER.below (below_alloc (Below.refl _ _) (.cells #[.int .i64 0,.int .i64 0,.int .i64 0,.int .i64 0,.string ⟨#[]⟩] 24)) (Nat.le_refl _);refine hK.out _ _ ⟨(blk_cell hNI.2.1 0).trans rfl,(blk_cell hNI.2.1 1).trans rfl,hNI⟩ (fun hHeld=>?_);clear hK K;refine norm_ (a':=?_) ?_ ?_;rotate_left
   ·show Act.put _ (some 3) _=_;simp only [Act.put,List.setIfInBounds_toArray,List.set_cons_zero,List.set_cons_succ,i64_w,i32_w];rfl
   exact norm_ (by first|(simp only [putAll,Act.put,List.setIfInBounds_toArray,List.set_cons_zero,List.set_cons_succ];done)|(simp only [putAll,Act.put,List.setIfInBounds_toArray,List.set_cons_zero,List.set_cons_succ];rfl)) (hCont ⟨_,T,u⟩ _ ⟨hHeld,hGB,hGL,hER⟩)
  ·skip;refine value_ (w1:=?_) (v:=?_) (by rfl) rfl ?_ ?_;rotate_left 2
   ·go_simp;constructor
    ·rfl
    ·rfl
   obtain ⟨hNI,hGB,hGL⟩:=NInv.alloc hHeld.2.2;refine hK.out _ _ ⟨(blk_cell hNI.2.1 0).trans rfl,(blk_cell hNI.2.1 1).trans rfl,hNI⟩ (fun hHeld=>?_);clear hK K;refine norm_ (a':=?_) ?_ ?_;rotate_left
   ·show Act.put _ (some 3) _=_;simp only [Act.put,List.setIfInBounds_toArray,List.set_cons_zero,List.set_cons_succ,i64_w,i32_w];rfl
   refine one_ (i:=8) (N:=some 20) #[true,true,true,true,true,true,true,true,true,false,false,false,true,false,false] rfl rfl (by kernel_rfl) (by decide) (fun K hK=>?_);refine goes_ Tryd.func16 (by kernel_rfl) rfl #[.string s,.int .i64 (a:Int)] (by rfl) rfl rfl (by simp only [List.map_toArray,List.map_cons,List.map_nil];rfl) ?_;refine (next_bad s a p c HRES.out ha _ hHeld.2.2.2.2.2 hsz).mono ?_;rintro e w3 ⟨T,u,rfl,hER,hb3⟩;refine ⟨_,rfl,?_⟩;have hNI:=NInv.step hHeld.2.2 hb3;have hGB:=blk_below hGB hb3;refine hK.out _ _ ⟨(blk_cell hNI.2.1 0).trans rfl,(blk_cell hNI.2.1 1).trans rfl,hNI⟩ (fun hHeld=>?_);clear hK K;refine norm_ (a':=?_) ?_ ?_;rotate_left
   ·show Act.put _ (some 20) _=_;simp only [Act.put,List.setIfInBounds_toArray,List.set_cons_zero,List.set_cons_succ,i64_w,i32_w];rfl
   refine pure_ (i:=9) (N:=some 11) (v:=?_) (a':=?_) #[true,true,true,true,true,true,true,true,true,true,false,false,true,false,false] rfl rfl (by kernel_rfl) (fun _ _ _ h=>h) (Or.inl ⟨by rfl,?_⟩) ?_ ?_;rotate_left
   ·intro w';go_simp;with_reducible rfl
   rotate_left
   ·simp only [Act.put,List.setIfInBounds_toArray,List.set_cons_zero,List.set_cons_succ,i64_w,i32_w];rfl
   refine pure_ (i:=10) (N:=some 21) (v:=?_) (a':=?_) #[true,true,true,true,true,true,true,true,true,true,true,false,true,false,false] rfl rfl (by kernel_rfl) (fun _ _ _ h=>h) (Or.inl ⟨by rfl,?_⟩) ?_ ?_;rotate_left
   ·intro w';go_simp;with_reducible rfl
   rotate_left
   ·simp only [Act.put,List.setIfInBounds_toArray,List.set_cons_zero,List.set_cons_succ,i64_w,i32_w];rfl
   refine pure_ (i:=11) (N:=some 22) (v:=?_) (a':=?_) #[true,true,true,true,true,true,true,true,true,true,true,true,true,false,false] rfl rfl (by kernel_rfl) (fun _ _ _ h=>h) (Or.inl ⟨by rfl,?_⟩) ?_ ?_;rotate_left
   ·intro w';go_simp;with_reducible rfl
   rotate_left
   ·simp only [Act.put,List.setIfInBounds_toArray,List.set_cons_zero,List.set_cons_succ,i64_w,i32_w];rfl
   exact norm_ (by first|(simp only [putAll,Act.put,List.setIfInBounds_toArray,List.set_cons_zero,List.set_cons_succ];done)|(simp only [putAll,Act.put,List.setIfInBounds_toArray,List.set_cons_zero,List.set_cons_succ];rfl)) (hCont ⟨_,T,u⟩ _ ⟨hHeld,hGB,hGL,hER⟩)
 rintro ⟨g,T,u⟩ w4 ⟨hHeld,hGB,hGL,hER⟩;dsimp only at hGB hGL hER;dsimp only;refine norm_ (a':=?_) ?_ ?_;rotate_left
 ·simp only [putAll,Act.put,List.setIfInBounds_toArray,List.set_cons_zero,List.set_cons_succ];rfl
 refine one_ (i:=13) (N:=none) #[true,true,true,true,true,true,true,true,true,true,true,true,true,true,false] rfl rfl (by kernel_rfl) (by decide) (fun K hK=>?_);obtain ⟨z0,z1,z2,z3,z4⟩:=cells5 hGB;obtain ⟨f0,f1,f2,f3,f4⟩:=frozen5 hGB;refine skip_ (w1:=?_) (by rfl) rfl ?_ ?_;rotate_left
 ·go_simp;rfl
 have hNI:=NInv.set5 (.int .i64 0) (.int .i64 0) (.int .i64 0) (.int .i64 0) (.string ⟨#[]⟩) hHeld.2.2 HBL.out HSL.out hGL;have hTB:=put5 (.int .i64 0) (.int .i64 0) (.int .i64 0) (.int .i64 0) (.string ⟨#[]⟩) hGB;have hER:=hER.put5 (.int .i64 0) (.int .i64 0) (.int .i64 0) (.string ⟨#[]⟩) (k':=.i64) (m:=0) hGB;clear z0 f0 z1 f1 z2 f2 z3 f3 z4 f4;refine hK.out _ _ ⟨(blk_cell hNI.2.1 0).trans rfl,(blk_cell hNI.2.1 1).trans rfl,hNI⟩ (fun hHeld=>?_);clear hK K;refine pure_ (i:=14) (N:=some 4) (v:=?_) (a':=?_) #[true,true,true,true,true,true,true,true,true,true,true,true,true,true,true] rfl rfl (by kernel_rfl) (fun _ _ _ h=>h) (Or.inl ⟨by rfl,?_⟩) ?_ ?_;rotate_left
 ·intro w';go_simp;with_reducible rfl
 rotate_left
 ·simp only [Act.put,List.setIfInBounds_toArray,List.set_cons_zero,List.set_cons_succ,i64_w,i32_w];rfl
 refine done_ (by kernel_rfl) ?_;have HTB:=Lib.hid hTB;have HNI:=Lib.hid hNI;have HGL:=Lib.hid hGL;clear hHeld hNI hTB hGB;generalize (((((w4.setCell ⟨g,0,none⟩ (.int .i64 0)).setCell ⟨g,1,none⟩ (.int .i64 0)).setCell ⟨g,2,none⟩ (.int .i64 0)).setCell ⟨g,3,none⟩ (.int .i64 0)).setCell ⟨g,4,none⟩ (.string ⟨#[]⟩))=w5 at *
 (have hbg:b ≠ g:=by have:=HBL.out;omega);have hlt:=HBL.out;have HER5:=Lib.hid hER;clear hER;have j1:=(blk_cell HNI.out.2.1 1).trans (show _=some (.int .i64 (a:Int)) from rfl);have j2:=(blk_cell HNI.out.2.1 2).trans (show _=some .nilIface from rfl);have e1:=blk_frozen HNI.out.2.1 1;have e2:=blk_frozen HNI.out.2.1 2;have c2:=(blk_cell HTB.out 2).trans (show _=some (.int .i64 0) from rfl);(go_upto_region 5 with (fail));have HTB6:=Lib.hid (show ((w5.setCell ⟨b,1,none⟩ (.int .i64 0)).setCell ⟨b,2,none⟩ (.iface T u)).heap[g]? = _ from blk_far (blk_far HTB.out (p:=⟨b,1,none⟩) (Ne.symm hbg) _) (p:=⟨b,2,none⟩) (Ne.symm hbg) _);have HRB6:=Lib.hid (show ((w5.setCell ⟨b,1,none⟩ (.int .i64 0)).setCell ⟨b,2,none⟩ (.iface T u)).heap[w.heap.size]? = _ from blk_far (blk_far HNI.out.2.2.1 (p:=⟨b,1,none⟩) (show w.heap.size ≠ b by omega) _) (p:=⟨b,2,none⟩) (show w.heap.size ≠ b by omega) _);have HB6:=Lib.hid (show ((w5.setCell ⟨b,1,none⟩ (.int .i64 0)).setCell ⟨b,2,none⟩ (.iface T u)).heap[b]? = some (.cells #[.string s,.int .i64 0,.iface T u] 89 (0,0)) from blk_put (blk_put HNI.out.2.1 1 _ rfl) 2 _ rfl);have HS6:=Lib.hid (show Step w ((w5.setCell ⟨b,1,none⟩ (.int .i64 0)).setCell ⟨b,2,none⟩ (.iface T u)) b from ⟨((HNI.out.1.mono (Nat.le_of_lt hlt)).setCell (Nat.le_refl b) _).setCell (Nat.le_refl b) _,((KeepBut.of_below HNI.out.1 b none).set_ 1 _).set_ 2 _⟩);have HER6:=Lib.hid ((HER5.out.far (g:=b) 1 (.int .i64 0) j1).far (g:=b) 2 (.iface T u) ((blk_cell (blk_put (cs':=#[.string s,.int .i64 0,.nilIface]) HNI.out.2.1 1 (.int .i64 0) rfl) 1).trans rfl));clear j1 j2 e1 e2 c2;generalize ((w5.setCell ⟨b,1,none⟩ (.int .i64 0)).setCell ⟨b,2,none⟩ (.iface T u))=w6 at *
 obtain ⟨c0,c1,c2,c3,c4⟩:=cells5 HTB6.out;have hblk:=HRB6.out;obtain ⟨k0,k1,k2,k3,k4⟩:=cells5 hblk;obtain ⟨f0,f1,f2,f3,f4⟩:=frozen5 hblk;have HK:=Lib.hid hblk;clear hblk;go_wp2;refine bodyPost_ret (results_c rfl _ _ w.heap.size 24 _ (0,0) _ rfl (put5 _ _ _ _ _ HK.out) Tryd.underlying24 rfl (by kernel_rfl)) rfl ?_;exact ⟨rfl,⟨0,T,u,far5 _ _ _ _ _ (show b ≠ w.heap.size by omega) HB6.out,HER6.out.put5 _ _ _ _ HK.out⟩,HS6.out.set5 _ _ _ _ _ (Nat.le_of_lt hlt)⟩
theorem rnext_ok (s:ByteArray) (b a:Nat) (w:World) (hs:Signs w) (hsz:s.size≤140737488351232) (h:RSt w b s (.inl a)) :
  Calls Tryd.prog 65 #[.pointer (some ⟨b,0,none⟩)] w fun e w'=>e = .returned (tokV (Pure.nx (bytesOf s) (.inl a)).1)∧RSt w' b s (Pure.nx (bytesOf s) (.inl a)).2∧Step w w' b:=by
 cases hr:Pure.nextS (bytesOf s) a with
 | inl t=>
  (have e:Pure.nx (bytesOf s) (.inl a)=(t,.inl t.end_):=by simp only [Pure.nx,hr]);rw [e];exact rnext_tok s b a t hr w hs hsz h
 | inr pc=>
  (have e:Pure.nx (bytesOf s) (.inl a)=(Pure.tok0,.inr pc):=by simp only [Pure.nx,hr]);rw [e];exact rnext_bad s b a pc.1 pc.2 hr w hs hsz h
theorem rnext_calls (s:ByteArray) (b:Nat) (st:Pure.St) (w:World) (hs:Signs w) (hsz:s.size≤140737488351232) (h:RSt w b s st) :
  Calls Tryd.prog 65 #[.pointer (some ⟨b,0,none⟩)] w fun e w'=>e = .returned (tokV (Pure.nx (bytesOf s) st).1)∧RSt w' b s (Pure.nx (bytesOf s) st).2∧Step w w' b:=by
 cases st with
 | inl a=>exact rnext_ok s b a w hs hsz h
 | inr e=>exact rnext_err s b e.1 e.2 w h
set_option maxRecDepth 100000 in
set_option maxHeartbeats 4000000 in
theorem bad_calls (s:ByteArray) (b:Nat) (st:Pure.St) (t:Pure.Tok) (w:World) (hsz:s.size≤140737488351232) (h:RSt w b s st) :
  Calls Tryd.prog 66 #[.pointer (some ⟨b,0,none⟩),tokV t] w fun e w'=>e = .returned (.tuple #[])∧RSt w' b s (Pure.bd (bytesOf s) t st)∧Step w w' b:=by
 have hlt:=h.lt;have hba:=below_alloc (Below.refl w.heap.size w) (.cells #[.int .i64 t.kind,.int .i64 (t.at_:Int),.int .i64 (t.end_:Int),.int .i64 t.n,.string (strOfNums t.text)] 24);cases st with
 | inr pc=>
  obtain ⟨p,c⟩:=pc;have H:=Lib.hid (h.below hba);obtain ⟨x,T,u,hb,-⟩:=h;have k2:=(blk_cell (blk_below hb hba) 2).trans (show _=some (.iface T u) from rfl);have HS:=Lib.hid (Step.of_below hba hlt);clear hb hba;unfold tokV;(go_enter Tryd.func66,Tryd.ntmps66);go_wp2;go_end0;exact ⟨rfl,H.out,HS.out⟩
 | inl a=>
  obtain ⟨ha,hb⟩:=h;have HB:=Lib.hid (blk_below hb hba);have HBA:=Lib.hid hba;have HT:=Lib.hid (blk_new w (.cells #[.int .i64 t.kind,.int .i64 (t.at_:Int),.int .i64 (t.end_:Int),.int .i64 t.n,.string (strOfNums t.text)] 24));have k0:=(blk_cell HB.out 0).trans (show _=some (.string s) from rfl);have k2:=(blk_cell HB.out 2).trans (show _=some .nilIface from rfl);have c0:=(blk_cell HT.out 0).trans (show _=some (.int .i64 t.kind) from rfl);have c1:=(blk_cell HT.out 1).trans (show _=some (.int .i64 (t.at_:Int)) from rfl);clear hb hba ha;unfold tokV;by_cases h0:t.kind=0
  ·have HE:=Lib.hid (show Pure.bd (bytesOf s) t (.inl a) = .inr (s.size,10) by simp [Pure.bd,Pure.badE,h0,bytesOf_length]);have b0:(t.kind == 0)=true:=beq_iff_eq.2 h0;clear h0;(go_enter Tryd.func66,Tryd.ntmps66);(go_wp2_with fail);refine (new_calls 10 ((s.size:Int):Int) _ (by decide)).mono ?_;rintro e w2 ⟨v,rfl,he2,hb2⟩;obtain ⟨T,x,rfl⟩:=he2.iface (.inl (by simp));have hblk:=blk_below HB.out hb2;have j1:=(blk_cell hblk 1).trans (show _=some (.int .i64 (a:Int)) from rfl);have j2:=(blk_cell hblk 2).trans (show _=some .nilIface from rfl);have e2:=blk_frozen hblk 2;have hbw:=below_then HBA.out HBA.out.size hb2;have HR:=Lib.hid (show RSt (w2.setCell ⟨b,2,none⟩ (.iface T x)) b s (.inr (s.size,10)) from ⟨(a:Int),T,x,blk_put hblk 2 _ rfl,he2.far (g:=b) 2 (.iface T x) j1⟩);have HS:=Lib.hid (show Step w (w2.setCell ⟨b,2,none⟩ (.iface T x)) b from ⟨(hbw.mono (Nat.le_of_lt hlt)).setCell (Nat.le_refl b) _,(KeepBut.of_below hbw b none).set_ 2 _⟩);clear k0 k2 c0 c1 he2 hb2 hbw hblk j1;go_wp2;go_end0;rw [HE.out];exact ⟨rfl,HR.out,HS.out⟩
  ·have HE:=Lib.hid (show Pure.bd (bytesOf s) t (.inl a) = .inr (t.at_,2) by simp [Pure.bd,Pure.badE,h0]);have b0:(t.kind == 0)=false:=beq_eq_false_iff_ne.2 h0;clear h0;(go_enter Tryd.func66,Tryd.ntmps66);(go_wp2_with fail);refine (new_calls 2 ((t.at_:Int):Int) _ (by decide)).mono ?_;rintro e w2 ⟨v,rfl,he2,hb2⟩;obtain ⟨T,x,rfl⟩:=he2.iface (.inl (by simp));have hblk:=blk_below HB.out hb2;have j1:=(blk_cell hblk 1).trans (show _=some (.int .i64 (a:Int)) from rfl);have j2:=(blk_cell hblk 2).trans (show _=some .nilIface from rfl);have e2:=blk_frozen hblk 2;have hbw:=below_then HBA.out HBA.out.size hb2;have HR:=Lib.hid (show RSt (w2.setCell ⟨b,2,none⟩ (.iface T x)) b s (.inr (t.at_,2)) from ⟨(a:Int),T,x,blk_put hblk 2 _ rfl,he2.far (g:=b) 2 (.iface T x) j1⟩);have HS:=Lib.hid (show Step w (w2.setCell ⟨b,2,none⟩ (.iface T x)) b from ⟨(hbw.mono (Nat.le_of_lt hlt)).setCell (Nat.le_refl b) _,(KeepBut.of_below hbw b none).set_ 2 _⟩);clear k0 k2 c0 c1 he2 hb2 hbw hblk j1;go_wp2;go_end0;rw [HE.out];exact ⟨rfl,HR.out,HS.out⟩
theorem nx_inb (s:ByteArray) (st:Pure.St):Pure.InB (Pure.nx (bytesOf s) st).1.text:=by
 cases st with
 | inr e=>intro x hx;simp [Pure.nx,Pure.tok0] at hx
 | inl a=>
  cases hr:Pure.nextS (bytesOf s) a with
  | inr e=>intro x hx;simp [Pure.nx,hr,Pure.tok0] at hx
  | inl t=>
   (have e:Pure.nx (bytesOf s) (.inl a)=(t,.inl t.end_):=by simp only [Pure.nx,hr]);rw [e];exact (tok_parts (Pure.InB.drop (Pure.bytesOf_range s) _) hr).1
theorem is_some (t:Pure.Tok) (x:ByteArray) (h:Pure.InB t.text):route_is.f t.kind (t.at_:Int) (t.end_:Int) t.n (strOfNums t.text) x=some (Pure.isS t (bytesOf x)):=by
 unfold route_is.f Pure.isS;by_cases h1:t.kind=1
 ·rw [if_pos h1];congr 1;rw [Bool.eq_iff_iff,beq_iff_eq,Pure.toList_inj,decide_eq_true_iff];constructor
  ·rintro rfl;exact ⟨h1,(Pure.bytesOf_strOfNums _ h).symm⟩
  ·rintro ⟨-,e⟩;rw [e,Pure.strOfNums_bytesOf]
 ·rw [if_neg h1];congr 1;simp [h1]
theorem is_calls (t:Pure.Tok) (x:ByteArray) (h:Pure.InB t.text) (w:World) :
  Calls Tryd.prog 61 #[.agg #[.int .i64 t.kind,.int .i64 (t.at_:Int),.int .i64 (t.end_:Int),.int .i64 t.n,.string (strOfNums t.text)],.string x] w fun e w'=>e = .returned (.bool (Pure.isS t (bytesOf x)))∧Below w.heap.size w w':=by
 have h1:=route_is.calls t.kind (t.at_:Int) (t.end_:Int) t.n (strOfNums t.text) x _ w (is_some t x h);refine h1.mono ?_;rintro e w' ⟨rfl,hb⟩;exact ⟨rfl,hb⟩
set_option maxRecDepth 100000 in
set_option maxHeartbeats 4000000 in
theorem must_calls (s x:ByteArray) (b:Nat) (st:Pure.St) (w:World) (hs:Signs w) (hsz:s.size≤140737488351232) (h:RSt w b s st) (hsb:0 < b) :
  Calls Tryd.prog 64 #[.pointer (some ⟨b,0,none⟩),.string x] w fun e w'=>e = .returned (.tuple #[])∧RSt w' b s (Pure.mustC (bytesOf s) (bytesOf x) st)∧Step w w' b:=by
 have H0:=Lib.hid h;have HIN:=Lib.hid (nx_inb s st);have HM:=Lib.hid (show Pure.mustC (bytesOf s) (bytesOf x) st=(if Pure.isS (Pure.nx (bytesOf s) st).1 (bytesOf x)=true then (Pure.nx (bytesOf s) st).2 else Pure.bd (bytesOf s) (Pure.nx (bytesOf s) st).1 (Pure.nx (bytesOf s) st).2) from rfl);have HNX:=Lib.hid (rnext_calls s b st w hs hsz h);clear h hs;generalize Pure.nx (bytesOf s) st=r at *
 obtain ⟨t,st1⟩:=r;dsimp only at HIN HM HNX;(go_enter Tryd.func64,Tryd.ntmps64);(go_wp2_with fail);refine HNX.out.mono ?_;rintro e w1 ⟨rfl,h1,hst1⟩;have hlt1:=h1.lt;have hba:=below_alloc (Below.refl w1.heap.size w1) (.cells #[.int .i64 t.kind,.int .i64 (t.at_:Int),.int .i64 (t.end_:Int),.int .i64 t.n,.string (strOfNums t.text)] 24);have HK:=Lib.hid (blk_new w1 (.cells #[.int .i64 t.kind,.int .i64 (t.at_:Int),.int .i64 (t.end_:Int),.int .i64 t.n,.string (strOfNums t.text)] 24));have H2:=Lib.hid (h1.below hba);have HS2:=Lib.hid (hst1.trans (Step.of_below hba hlt1));have HLT:=Lib.hid (show w1.heap.size ≠ b by omega);clear h1 hst1 hba;unfold tokV;(go_upto_region 1 with (fail));generalize (w1.alloc (.cells #[.int .i64 t.kind,.int .i64 (t.at_:Int),.int .i64 (t.end_:Int),.int .i64 t.n,.string (strOfNums t.text)] 24))=w2 at *
 generalize w1.heap.size=g at *
 obtain ⟨c0,c1,c2,c3,c4⟩:=cells5 HK.out;(go_wp2_with fail);refine (is_calls t x HIN.out _).mono ?_;rintro e w3 ⟨rfl,hb3⟩;have H3:=Lib.hid (H2.out.below hb3);have HS3:=Lib.hid (HS2.out.trans (Step.of_below hb3 H2.out.lt));have hk3:=blk_below HK.out hb3;clear c0 c1 c2 c3 c4 hb3;cases hi:Pure.isS t (bytesOf x) with
 | true=>
  have HM2:=Lib.hid (show Pure.mustC (bytesOf s) (bytesOf x) st=st1 by rw [HM.out,hi];rfl);clear hi hk3;go_wp2;go_end0;rw [HM2.out];exact ⟨rfl,H3.out,HS3.out⟩
 | false=>
  have HM2:=Lib.hid (show Pure.mustC (bytesOf s) (bytesOf x) st=Pure.bd (bytesOf s) t st1 by rw [HM.out,hi];rfl);obtain ⟨c0,c1,c2,c3,c4⟩:=cells5 hk3;clear hi hk3;(go_wp2_with fail);refine (bad_calls s b st1 t w3 hsz H3.out).mono ?_;rintro e w4 ⟨rfl,h4,hst4⟩;have H4:=Lib.hid h4;have HS4:=Lib.hid (HS3.out.trans hst4);clear h4 hst4 c0 c1 c2 c3 c4;go_wp2;go_end0;rw [HM2.out];exact ⟨rfl,H4.out,HS4.out⟩
end Go.Proofs.YtkbjblhompkdkaaDoor
namespace Go.Proofs.YtkbjblhompkdkaaDoor
open Go.RowKit Go.Proofs.YtkbjblhompkdkaaDoor.PA Go.Proofs.YtkbjblhompkdkaaDoor.PB Go.Proofs.YtkbjblhompkdkaaDoorW.PrintWords Go.Proofs.YtkbjblhompkdkaaDoorW.PrintLast
set_option linter.unusedVariables false
set_option linter.unusedSimpArgs false
theorem carryB {w0 w w':World} {b:Nat} {s:ByteArray} {st:Pure.St} (h1:RowKit.Hid (Step w0 w b)) (h2:RowKit.Hid (RSt w b s st)) (h3:RowKit.Hid (Signs w)) (hb:Below w.heap.size w w'):RowKit.Hid (Step w0 w' b)∧RowKit.Hid (RSt w' b s st)∧RowKit.Hid (Signs w'):=
 ⟨Lib.hid (h1.out.trans (Step.of_below hb h2.out.lt)),Lib.hid (h2.out.below hb),Lib.hid (h3.out.below hb (Nat.le_refl _))⟩
theorem far1 {W:World} {g k:Nat} {o:Obj} (j:Nat) (v:Value) (hk:k ≠ g) (h:W.heap[k]? = some o):(W.setCell ⟨g,j,none⟩ v).heap[k]? = some o:=(Below.heap_setCell W ⟨g,j,none⟩ v k hk).trans h
theorem RSt.far {w:World} {b g:Nat} {s:ByteArray} {st:Pure.St} (j:Nat) (v:Value) (hne:b ≠ g) (h:RSt w b s st) (h1:∃ k n,w.cell? ⟨g,1,none⟩=some (.int k n)):RSt (w.setCell ⟨g,j,none⟩ v) b s st:=by
 obtain ⟨k,n,h1⟩:=h1;cases st with
 | inl a=>exact ⟨h.1,far1 j v hne h.2⟩
 | inr e=>obtain ⟨x,T,u,h2,h3⟩:=h;exact ⟨x,T,u,far1 j v hne h2,h3.far j v h1⟩
theorem Signs.far {w:World} {g:Nat} (j:Nat) (v:Value) (hne:(0:Nat) ≠ g) (h:Signs w):Signs (w.setCell ⟨g,j,none⟩ v):=fun i x hx=>by
 rw [cell_far _ _ _ _ hne];exact h i x hx
theorem Step.far {w0 w:World} {b g:Nat} (j:Nat) (v:Value) (h:Step w0 w b) (hb:b≤g) (hg:w0.heap.size≤g):Step w0 (w.setCell ⟨g,j,none⟩ v) b:=⟨h.1.setCell hb _,keep_far h.2 hg v⟩
theorem RSt.set5 {W:World} {b g:Nat} {s:ByteArray} {st:Pure.St} {t:TypeId} {z0 z2 z3 z4:Value} {k:IntKind} {n:Int} (x0 x1 x2 x3 x4:Value) (hne:b ≠ g) (h:RSt W b s st) (hg:W.heap[g]? = some (.cells #[z0,.int k n,z2,z3,z4] t (0,0))) (h1:∃ k' m,x1 = .int k' m:=by exact ⟨_,_,rfl⟩) :
  RSt (((((W.setCell ⟨g,0,none⟩ x0).setCell ⟨g,1,none⟩ x1).setCell ⟨g,2,none⟩ x2).setCell ⟨g,3,none⟩ x3).setCell ⟨g,4,none⟩ x4) b s st:=by
 obtain ⟨k',m,rfl⟩:=h1;cases st with
 | inl a=>exact ⟨h.1,far5 _ _ _ _ _ hne h.2⟩
 | inr e=>obtain ⟨x,T,u,h2,h3⟩:=h;exact ⟨x,T,u,far5 _ _ _ _ _ hne h2,h3.put5 _ _ _ _ hg⟩
theorem Signs.set5 {W:World} {g:Nat} (x0 x1 x2 x3 x4:Value) (hne:(0:Nat) ≠ g) (h:Signs W) :
  Signs (((((W.setCell ⟨g,0,none⟩ x0).setCell ⟨g,1,none⟩ x1).setCell ⟨g,2,none⟩ x2).setCell ⟨g,3,none⟩ x3).setCell ⟨g,4,none⟩ x4):=
 Signs.far _ _ hne (Signs.far _ _ hne (Signs.far _ _ hne (Signs.far _ _ hne (Signs.far _ _ hne h))))
theorem Step.set5w {w0 W:World} {b g:Nat} (x0 x1 x2 x3 x4:Value) (h:Step w0 W b) (hb:b≤g) (hg:w0.heap.size≤g) :
  Step w0 (((((W.setCell ⟨g,0,none⟩ x0).setCell ⟨g,1,none⟩ x1).setCell ⟨g,2,none⟩ x2).setCell ⟨g,3,none⟩ x3).setCell ⟨g,4,none⟩ x4) b:=
 Step.far _ _ (Step.far _ _ (Step.far _ _ (Step.far _ _ (Step.far _ _ h hb hg) hb hg) hb hg) hb hg) hb hg
def segV (x:Pure.Seg):Value:=.agg #[.int .i64 x.kind,.int .i64 x.n,.int .i64 x.lo,.int .i64 x.hi,.string (strOfNums x.text)]
set_option maxRecDepth 100000 in
set_option maxHeartbeats 8000000 in
theorem slice_aux (s:ByteArray) (b:Nat) (lo:Int) (st:Pure.St) (w0 w:World) (hs:Signs w) (hsz:s.size≤140737488351232) (h:RSt w b s st) (hsb:0 < b) (hst0:Step w0 w b) :
  Calls Tryd.prog 88 #[.pointer (some ⟨b,0,none⟩),.int .i64 lo] w fun e w'=>e = .returned (segV (Pure.sliceC (bytesOf s) lo st).1)∧RSt w' b s (Pure.sliceC (bytesOf s) lo st).2∧Step w0 w' b:=by
 have HRS:=Lib.hid h;have HSG:=Lib.hid hs;have HST:=Lib.hid hst0;clear h hs hst0;obtain ⟨t,s1,hn⟩:∃ t s1,Pure.nx (bytesOf s) st=(t,s1):=⟨_,_,rfl⟩;have HN:=Lib.hid hn;have HI:=Lib.hid (show Pure.InB t.text by have:=nx_inb s st;rwa [hn] at this);clear hn;(go_enter Tryd.func88,Tryd.ntmps88);(go_upto_region 1 with (fail));have hba:=below_alloc (Below.refl w.heap.size w) (.cells #[.int .i64 0,.int .i64 0,.int .i64 0,.int .i64 0,.string ⟨#[]⟩] 83);have hn_:=Lib.hid (blk_new w (.cells #[.int .i64 0,.int .i64 0,.int .i64 0,.int .i64 0,.string ⟨#[]⟩] 83));have hggr:b < w.heap.size:=HRS.out.lt;have HGEgr:=Lib.hid (show w0.heap.size≤w.heap.size from HST.out.2.1);obtain ⟨HST,HRS,HSG⟩:=carryB HST HRS HSG hba;have HR:=hn_;clear hba hn_;generalize (w.alloc (.cells #[.int .i64 0,.int .i64 0,.int .i64 0,.int .i64 0,.string ⟨#[]⟩] 83))=w1 at HRS HSG HST HR ⊢;generalize w.heap.size=gr at HR HGEgr hggr  ⊢;(go_upto_region 2 with (fail));have hba:=below_alloc (Below.refl w1.heap.size w1) (.cells #[.int .i64 2,.int .i64 0,.int .i64 lo,.int .i64 9223372036854775807,.string ⟨#[]⟩] 83);have hn_:=Lib.hid (blk_new w1 (.cells #[.int .i64 2,.int .i64 0,.int .i64 lo,.int .i64 9223372036854775807,.string ⟨#[]⟩] 83));have hggs:b < w1.heap.size:=HRS.out.lt;have HGEgs:=Lib.hid (show w0.heap.size≤w1.heap.size from HST.out.2.1);have hdgs_gr:gr < w1.heap.size:=blk_lt HR.out;obtain ⟨HST,HRS,HSG⟩:=carryB HST HRS HSG hba;replace HR:=Lib.hid (blk_below HR.out hba);have HV:=hn_;clear hba hn_;generalize (w1.alloc (.cells #[.int .i64 2,.int .i64 0,.int .i64 lo,.int .i64 9223372036854775807,.string ⟨#[]⟩] 83))=w2 at HRS HSG HST HV HR ⊢;generalize w1.heap.size=gs at HV HGEgs hggs hdgs_gr ⊢;(go_wp2_with fail);refine (rnext_calls s b st _ HSG.out hsz HRS.out).mono ?_;rw [HN.out];rintro e w3 ⟨rfl,hrs,hst⟩;dsimp only at hrs;replace HST:=Lib.hid (HST.out.trans hst);replace HRS:=Lib.hid hrs;replace HSG:=Lib.hid (HSG.out.step hst hsb);replace HR:=Lib.hid (hst.blk HR.out (show gr ≠ b by omega));replace HV:=Lib.hid (hst.blk HV.out (show gs ≠ b by omega));clear hrs hst;unfold tokV;(go_upto_region 3 with (fail));have hba:=below_alloc (Below.refl w3.heap.size w3) (.cells #[.int .i64 t.kind,.int .i64 (t.at_:Int),.int .i64 (t.end_:Int),.int .i64 t.n,.string (strOfNums t.text)] 24);have hn_:=Lib.hid (blk_new w3 (.cells #[.int .i64 t.kind,.int .i64 (t.at_:Int),.int .i64 (t.end_:Int),.int .i64 t.n,.string (strOfNums t.text)] 24));have hggt:b < w3.heap.size:=HRS.out.lt;have HGEgt:=Lib.hid (show w0.heap.size≤w3.heap.size from HST.out.2.1);have hdgt_gr:gr < w3.heap.size:=blk_lt HR.out;have hdgt_gs:gs < w3.heap.size:=blk_lt HV.out;obtain ⟨HST,HRS,HSG⟩:=carryB HST HRS HSG hba;replace HR:=Lib.hid (blk_below HR.out hba);replace HV:=Lib.hid (blk_below HV.out hba);have HT:=hn_;clear hba hn_;generalize (w3.alloc (.cells #[.int .i64 t.kind,.int .i64 (t.at_:Int),.int .i64 (t.end_:Int),.int .i64 t.n,.string (strOfNums t.text)] 24))=w4 at HRS HSG HST HT HR HV ⊢;generalize w3.heap.size=gt at HT HGEgt hggt hdgt_gr hdgt_gs ⊢;obtain ⟨c0,c1,c2,c3,c4⟩:=cells5 HT.out;by_cases h3:t.kind=3
 ·skip;obtain ⟨u,s2,hn2⟩:∃ u s2,Pure.nx (bytesOf s) s1=(u,s2):=⟨_,_,rfl⟩;have HN2:=Lib.hid hn2;have HI2:=Lib.hid (show Pure.InB u.text by have:=nx_inb s s1;rwa [hn2] at this);clear hn2;have HC:=Lib.hid (show Pure.sliceC (bytesOf s) lo st=(⟨2,0,lo,t.n,[]⟩,if Pure.isS u [93]=true then s2 else Pure.bd (bytesOf s) u s2) by simp only [Pure.sliceC,Pure.mustC,HN.out,HN2.out,h3,if_true]);have b3:(t.kind == 3)=true:=beq_iff_eq.2 h3;clear h3;have y3:=(blk_cell HV.out 3).trans (show _=some (.int .i64 9223372036854775807) from rfl);have yf3:=blk_frozen HV.out 3;(go_upto_region 5 with (fail));clear y3 yf3;have hset_:=Lib.hid (blk_put (cs':=#[.int .i64 2,.int .i64 0,.int .i64 lo,.int .i64 t.n,.string ⟨#[]⟩]) HV.out 3 (.int .i64 t.n) rfl);replace HRS:=Lib.hid (RSt.far 3 (.int .i64 t.n) (show b ≠ gs by omega) HRS.out ⟨_,_,(blk_cell HV.out 1).trans (show _=some (.int .i64 0:Value) from rfl)⟩);replace HSG:=Lib.hid (Signs.far 3 (.int .i64 t.n) (show (0:Nat) ≠ gs by omega) HSG.out);replace HST:=Lib.hid (Step.far 3 (.int .i64 t.n) HST.out (show b≤gs by omega) HGEgs.out);replace HR:=Lib.hid (far1 3 (.int .i64 t.n) (show gr ≠ gs by omega) HR.out);replace HT:=Lib.hid (far1 3 (.int .i64 t.n) (show gt ≠ gs by omega) HT.out);have HV:=hset_;clear hset_;generalize (w4.setCell ⟨gs,3,none⟩ (.int .i64 t.n))=w5 at HRS HSG HST HR HV HT ⊢;clear c0 c1 c2 c3 c4;(go_wp2_with fail);refine (rnext_calls s b s1 _ HSG.out hsz HRS.out).mono ?_;rw [HN2.out];rintro e w6 ⟨rfl,hrs,hst⟩;dsimp only at hrs;replace HST:=Lib.hid (HST.out.trans hst);replace HRS:=Lib.hid hrs;replace HSG:=Lib.hid (HSG.out.step hst hsb);replace HR:=Lib.hid (hst.blk HR.out (show gr ≠ b by omega));replace HV:=Lib.hid (hst.blk HV.out (show gs ≠ b by omega));replace HT:=Lib.hid (hst.blk HT.out (show gt ≠ b by omega));clear hrs hst;unfold tokV;obtain ⟨y0,y1,y2,y3,y4⟩:=cells5 HT.out;obtain ⟨yf0,yf1,yf2,yf3,yf4⟩:=frozen5 HT.out;(go_upto_region 6 with (fail));clear y0 yf0 y1 yf1 y2 yf2 y3 yf3 y4 yf4;have hset_:=Lib.hid (put5 (.int .i64 u.kind) (.int .i64 (u.at_:Int)) (.int .i64 (u.end_:Int)) (.int .i64 u.n) (.string (strOfNums u.text)) HT.out);replace HRS:=Lib.hid (RSt.set5 (.int .i64 u.kind) (.int .i64 (u.at_:Int)) (.int .i64 (u.end_:Int)) (.int .i64 u.n) (.string (strOfNums u.text)) (show b ≠ gt by omega) HRS.out HT.out);replace HSG:=Lib.hid (Signs.set5 (.int .i64 u.kind) (.int .i64 (u.at_:Int)) (.int .i64 (u.end_:Int)) (.int .i64 u.n) (.string (strOfNums u.text)) (show (0:Nat) ≠ gt by omega) HSG.out);replace HST:=Lib.hid (Step.set5w (.int .i64 u.kind) (.int .i64 (u.at_:Int)) (.int .i64 (u.end_:Int)) (.int .i64 u.n) (.string (strOfNums u.text)) HST.out (show b≤gt by omega) HGEgt.out);replace HR:=Lib.hid (far5 (.int .i64 u.kind) (.int .i64 (u.at_:Int)) (.int .i64 (u.end_:Int)) (.int .i64 u.n) (.string (strOfNums u.text)) (show gr ≠ gt by omega) HR.out);replace HV:=Lib.hid (far5 (.int .i64 u.kind) (.int .i64 (u.at_:Int)) (.int .i64 (u.end_:Int)) (.int .i64 u.n) (.string (strOfNums u.text)) (show gs ≠ gt by omega) HV.out);have HT:=hset_;clear hset_;generalize (((((w6.setCell ⟨gt,0,none⟩ (.int .i64 u.kind)).setCell ⟨gt,1,none⟩ (.int .i64 (u.at_:Int))).setCell ⟨gt,2,none⟩ (.int .i64 (u.end_:Int))).setCell ⟨gt,3,none⟩ (.int .i64 u.n)).setCell ⟨gt,4,none⟩ (.string (strOfNums u.text)))=w7 at HRS HSG HST HR HV HT ⊢;obtain ⟨c0,c1,c2,c3,c4⟩:=cells5 HT.out;(go_wp2_with fail);refine (is_calls u ⟨#[93]⟩ HI2.out _).mono ?_;rintro e w8 ⟨rfl,hb_⟩;obtain ⟨HST,HRS,HSG⟩:=carryB HST HRS HSG hb_;replace HR:=Lib.hid (blk_below HR.out hb_);replace HV:=Lib.hid (blk_below HV.out hb_);replace HT:=Lib.hid (blk_below HT.out hb_);clear hb_;clear c0 c1 c2 c3 c4;have hb93:bytesOf (⟨#[93]⟩:ByteArray) = [93]:=rfl;rw [hb93];clear hb93;cases hi_:Pure.isS u [93] with
  | true=>
   have HC2:=Lib.hid (show Pure.sliceC (bytesOf s) lo st=(⟨2,0,lo,t.n,[]⟩,s2) by rw [HC.out,hi_];rfl);clear hi_;obtain ⟨v0,v1,v2,v3,v4⟩:=cells5 HV.out;obtain ⟨y0,y1,y2,y3,y4⟩:=cells5 HR.out;obtain ⟨yf0,yf1,yf2,yf3,yf4⟩:=frozen5 HR.out;go_wp2;refine bodyPost_ret (results_c rfl _ _ gr 83 _ (0,0) _ rfl (put5 _ _ _ _ _ HR.out) Tryd.underlying83 rfl (by kernel_rfl)) rfl ?_;have hrs_:=RSt.set5 (.int .i64 2) (.int .i64 0) (.int .i64 lo) (.int .i64 t.n) (.string ⟨#[]⟩) (show b ≠ gr by omega) HRS.out HR.out;have hst_:=Step.set5w (.int .i64 2) (.int .i64 0) (.int .i64 lo) (.int .i64 t.n) (.string ⟨#[]⟩) HST.out (show b≤gr by omega) HGEgr.out;rw [HC2.out];exact ⟨rfl,hrs_,hst_⟩
  | false=>
   have HC2:=Lib.hid (show Pure.sliceC (bytesOf s) lo st=(⟨2,0,lo,t.n,[]⟩,Pure.bd (bytesOf s) u s2) by rw [HC.out,hi_];rfl);clear hi_;obtain ⟨c0,c1,c2,c3,c4⟩:=cells5 HT.out;(go_wp2_with fail);refine (bad_calls s b s2 u _ hsz HRS.out).mono ?_;rintro e w9 ⟨rfl,hrs,hst⟩;replace HST:=Lib.hid (HST.out.trans hst);replace HRS:=Lib.hid hrs;replace HSG:=Lib.hid (HSG.out.step hst hsb);replace HR:=Lib.hid (hst.blk HR.out (show gr ≠ b by omega));replace HV:=Lib.hid (hst.blk HV.out (show gs ≠ b by omega));replace HT:=Lib.hid (hst.blk HT.out (show gt ≠ b by omega));clear hrs hst;clear c0 c1 c2 c3 c4;obtain ⟨v0,v1,v2,v3,v4⟩:=cells5 HV.out;obtain ⟨y0,y1,y2,y3,y4⟩:=cells5 HR.out;obtain ⟨yf0,yf1,yf2,yf3,yf4⟩:=frozen5 HR.out;go_wp2;refine bodyPost_ret (results_c rfl _ _ gr 83 _ (0,0) _ rfl (put5 _ _ _ _ _ HR.out) Tryd.underlying83 rfl (by kernel_rfl)) rfl ?_;have hrs_:=RSt.set5 (.int .i64 2) (.int .i64 0) (.int .i64 lo) (.int .i64 t.n) (.string ⟨#[]⟩) (show b ≠ gr by omega) HRS.out HR.out;have hst_:=Step.set5w (.int .i64 2) (.int .i64 0) (.int .i64 lo) (.int .i64 t.n) (.string ⟨#[]⟩) HST.out (show b≤gr by omega) HGEgr.out;rw [HC2.out];exact ⟨rfl,hrs_,hst_⟩
 ·skip;have HC:=Lib.hid (show Pure.sliceC (bytesOf s) lo st=(⟨2,0,lo,9223372036854775807,[]⟩,if Pure.isS t [93]=true then s1 else Pure.bd (bytesOf s) t s1) by simp only [Pure.sliceC,HN.out,h3,if_false]);have b3:(t.kind == 3)=false:=beq_eq_false_iff_ne.2 h3;clear h3;(go_upto_region 6 with (fail));clear c0 c1 c2 c3 c4;obtain ⟨c0,c1,c2,c3,c4⟩:=cells5 HT.out;(go_wp2_with fail);refine (is_calls t ⟨#[93]⟩ HI.out _).mono ?_;rintro e w5 ⟨rfl,hb_⟩;obtain ⟨HST,HRS,HSG⟩:=carryB HST HRS HSG hb_;replace HR:=Lib.hid (blk_below HR.out hb_);replace HV:=Lib.hid (blk_below HV.out hb_);replace HT:=Lib.hid (blk_below HT.out hb_);clear hb_;clear c0 c1 c2 c3 c4;have hb93:bytesOf (⟨#[93]⟩:ByteArray) = [93]:=rfl;rw [hb93];clear hb93;cases hi_:Pure.isS t [93] with
  | true=>
   have HC2:=Lib.hid (show Pure.sliceC (bytesOf s) lo st=(⟨2,0,lo,9223372036854775807,[]⟩,s1) by rw [HC.out,hi_];rfl);clear hi_;obtain ⟨v0,v1,v2,v3,v4⟩:=cells5 HV.out;obtain ⟨y0,y1,y2,y3,y4⟩:=cells5 HR.out;obtain ⟨yf0,yf1,yf2,yf3,yf4⟩:=frozen5 HR.out;go_wp2;refine bodyPost_ret (results_c rfl _ _ gr 83 _ (0,0) _ rfl (put5 _ _ _ _ _ HR.out) Tryd.underlying83 rfl (by kernel_rfl)) rfl ?_;have hrs_:=RSt.set5 (.int .i64 2) (.int .i64 0) (.int .i64 lo) (.int .i64 9223372036854775807) (.string ⟨#[]⟩) (show b ≠ gr by omega) HRS.out HR.out;have hst_:=Step.set5w (.int .i64 2) (.int .i64 0) (.int .i64 lo) (.int .i64 9223372036854775807) (.string ⟨#[]⟩) HST.out (show b≤gr by omega) HGEgr.out;rw [HC2.out];exact ⟨rfl,hrs_,hst_⟩
  | false=>
   have HC2:=Lib.hid (show Pure.sliceC (bytesOf s) lo st=(⟨2,0,lo,9223372036854775807,[]⟩,Pure.bd (bytesOf s) t s1) by rw [HC.out,hi_];rfl);clear hi_;obtain ⟨c0,c1,c2,c3,c4⟩:=cells5 HT.out;(go_wp2_with fail);refine (bad_calls s b s1 t _ hsz HRS.out).mono ?_;rintro e w6 ⟨rfl,hrs,hst⟩;replace HST:=Lib.hid (HST.out.trans hst);replace HRS:=Lib.hid hrs;replace HSG:=Lib.hid (HSG.out.step hst hsb);replace HR:=Lib.hid (hst.blk HR.out (show gr ≠ b by omega));replace HV:=Lib.hid (hst.blk HV.out (show gs ≠ b by omega));replace HT:=Lib.hid (hst.blk HT.out (show gt ≠ b by omega));clear hrs hst;clear c0 c1 c2 c3 c4;obtain ⟨v0,v1,v2,v3,v4⟩:=cells5 HV.out;obtain ⟨y0,y1,y2,y3,y4⟩:=cells5 HR.out;obtain ⟨yf0,yf1,yf2,yf3,yf4⟩:=frozen5 HR.out;go_wp2;refine bodyPost_ret (results_c rfl _ _ gr 83 _ (0,0) _ rfl (put5 _ _ _ _ _ HR.out) Tryd.underlying83 rfl (by kernel_rfl)) rfl ?_;have hrs_:=RSt.set5 (.int .i64 2) (.int .i64 0) (.int .i64 lo) (.int .i64 9223372036854775807) (.string ⟨#[]⟩) (show b ≠ gr by omega) HRS.out HR.out;have hst_:=Step.set5w (.int .i64 2) (.int .i64 0) (.int .i64 lo) (.int .i64 9223372036854775807) (.string ⟨#[]⟩) HST.out (show b≤gr by omega) HGEgr.out;rw [HC2.out];exact ⟨rfl,hrs_,hst_⟩
theorem slice_calls (s:ByteArray) (b:Nat) (lo:Int) (st:Pure.St) (w:World) (hs:Signs w) (hsz:s.size≤140737488351232) (h:RSt w b s st) (hsb:0 < b) :
  Calls Tryd.prog 88 #[.pointer (some ⟨b,0,none⟩),.int .i64 lo] w fun e w'=>e = .returned (segV (Pure.sliceC (bytesOf s) lo st).1)∧RSt w' b s (Pure.sliceC (bytesOf s) lo st).2∧Step w w' b:=
 slice_aux s b lo st w w hs hsz h hsb ⟨Below.refl _ _,KeepBut.refl _ _ _⟩
end Go.Proofs.YtkbjblhompkdkaaDoor
namespace Go.Proofs.YtkbjblhompkdkaaDoor.Pure
open Go.Proofs.YtkbjblhompkdkaaDoor
theorem nx_more {l:List Int} {a:Nat} (ha:a≤l.length) (h0:(nx l (.inl a)).1.kind ≠ 0):∃ c,(nx l (.inl a)).2 = .inl c∧a < c∧c≤l.length:=by
 cases hr:nextS l a with
 | inr e=>simp [nx,hr,tok0] at h0
 | inl t=>
  (have e:nx l (.inl a)=(t,.inl t.end_):=by simp only [nx,hr]);rw [e] at h0 ⊢;have hk:=nextS_ok ha hr;have:=hk.2.2.2.2 h0;exact ⟨t.end_,rfl,by omega,hk.2.1⟩
theorem filtF_more (l:List Int):∀ (d:Nat) (a f:Nat) (n:Int) (acc:List Tok),a≤l.length→l.length+1 - a≤d→d≤f→filtF f l (.inl a) n acc=filtF d l (.inl a) n acc:=by
 intro d;induction d with
 | zero=>intro a f n acc ha hd;omega
 | succ d ih=>
  intro a f n acc ha hd hf;obtain ⟨f,rfl⟩:∃ g,f=g+1:=⟨f - 1,by omega⟩;simp only [filtF];by_cases h0:(nx l (.inl a)).1.kind=0
  ·rw [if_pos h0,if_pos h0]
  ·obtain ⟨c,hc,h1,h2⟩:=nx_more ha h0;rw [if_neg h0,if_neg h0,hc,ih c f _ _ h2 (by omega) (by omega),ih c f _ _ h2 (by omega) (by omega),ih c f _ _ h2 (by omega) (by omega)]
theorem filtC_err (l:List Int) (e:Nat × Int) (n:Int) (acc:List Tok):filtC l (.inr e) n acc=(acc,.inr e):=rfl
theorem filtC_step {l:List Int} {a:Nat} (ha:a≤l.length) (n:Int) (acc:List Tok):filtC l (.inl a) n acc =
  (if (nx l (.inl a)).1.kind=0 then (acc,bd l (nx l (.inl a)).1 (nx l (.inl a)).2)
   else if isS (nx l (.inl a)).1 [40]=true then filtC l (nx l (.inl a)).2 (n+1) (acc++[(nx l (.inl a)).1])
   else if isS (nx l (.inl a)).1 [41]=true then
    if n - 1=0 then (acc,if acc.length=0 then bd l (nx l (.inl a)).1 (nx l (.inl a)).2 else (nx l (.inl a)).2)
    else filtC l (nx l (.inl a)).2 (n - 1) (acc++[(nx l (.inl a)).1])
   else filtC l (nx l (.inl a)).2 n (acc++[(nx l (.inl a)).1])):=by
 (have hroom:room l (.inl a)=(l.length - a)+1:=by simp only [room];omega);unfold filtC;rw [hroom];simp only [filtF];by_cases h0:(nx l (.inl a)).1.kind=0
 ·rw [if_pos h0,if_pos h0]
 ·obtain ⟨c,hc,h1,h2⟩:=nx_more ha h0;have hf:∀ n acc,filtF (l.length - a) l (.inl c) n acc=filtF (room l (.inl c)) l (.inl c) n acc:=fun n acc=>filtF_more l _ c _ n acc h2 (Nat.le_refl _) (by simp only [room];omega);rw [if_neg h0,if_neg h0,hc,hf,hf,hf]
end Go.Proofs.YtkbjblhompkdkaaDoor.Pure

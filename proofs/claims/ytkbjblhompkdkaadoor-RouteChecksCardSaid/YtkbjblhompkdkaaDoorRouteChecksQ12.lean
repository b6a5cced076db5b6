/- YtkbjblhompkdkaaDoorRouteChecksQ12: PAx4, PAx5 -/
import Derived.Test.YtkbjblhompkdkaaDoorRouteChecksQ2
namespace Go.Proofs.YtkbjblhompkdkaaDoor.PA
open Go.RowKit Go.Proofs.YtkbjblhompkdkaaDoorW.PrintWords Go.Proofs.YtkbjblhompkdkaaDoorW.PrintLast
set_option linter.unusedVariables false
set_option linter.unusedSimpArgs false
def placketref02_escape.j0:Nat→Int→Int→Bool→Option (Int × Bool)
 | 0,_,_,_=>none
 | k+1,x0,x4,x5=>if x5=true then (some (x0,true)) else (if x4=110 then (some (10,true)) else (if x4=116 then (some (9,true)) else (if x4=114 then (some (13,true)) else (some (0,false)))))
def placketref02_escape.f (k:Nat) (a0:Int):Option (Int × Bool):=if a0=34 then (placketref02_escape.j0 k a0 a0 (a0 == 34)) else (if a0=92 then (placketref02_escape.j0 k a0 a0 (a0 == 92)) else (placketref02_escape.j0 k a0 a0 (a0 == 47)))
set_option maxHeartbeats 8000000 in
set_option maxRecDepth 100000 in
theorem placketref02_escape.calls (k:Nat) (a0:Int) (r1:Int) (r2:Bool) (w:World) (h:placketref02_escape.f k a0=some (r1,r2)) :
  Calls Tryd.prog 81 #[.int .u8 a0] w fun e w'=>e = .returned (.tuple #[.int .u8 r1,.bool r2])∧Drawn0 w w':=by
 have H:(if a0=34 then (placketref02_escape.j0 k a0 a0 (a0 == 34)) else (if a0=92 then (placketref02_escape.j0 k a0 a0 (a0 == 92)) else (placketref02_escape.j0 k a0 a0 (a0 == 47))))=some (r1,r2):=h;clear h;have HC2:=Aside0.mk H;clear H;(go_enter Tryd.func81,Tryd.ntmps81);go_upto_if 5 with (fail)
 go_cut [5] (fun v5 wc=>∃ (kq:Nat) (x5_1:Bool),v5 = .bool x5_1∧Aside0 (placketref02_escape.j0 kq a0 a0 x5_1=some (r1,r2))∧Aside0 (kq≤k)∧Drawn0 w wc)
 case first=>
  have H:=HC2.out;clear HC2;by_cases c3:a0=34
  ·rw [if_pos c3] at H;have c3b0:(a0 == 34)=true:=beq_iff_eq.mpr c3;have c3b1:(a0 != 34)=false:=bne_eq_false_iff_eq.mpr c3;clear c3
   (first|rw [c3b0]|(simp only [i64_w,i32_w];rw [c3b0])|skip)
   have H':=Aside0.mk H;clear H;go_wp2;go_meet
   case rel=>exact ⟨_,((a0 == 34)),(by first|rfl|(simp;done)|(simp [*];done)),H',⟨by first|omega|exact Nat.le_refl _⟩,by repeat (first|exact Drawn0.refl _|apply Drawn0.step)⟩
  ·rw [if_neg c3] at H;have c3b0:(a0 == 34)=false:=beq_eq_false_iff_ne.mpr c3;have c3b1:(a0 != 34)=true:=bne_iff_ne.mpr c3
   (first|rw [c3b0]|(simp only [i64_w,i32_w];rw [c3b0])|skip)
   by_cases c4:a0=92
   ·rw [if_pos c4] at H;have c4b0:(a0 == 92)=true:=beq_iff_eq.mpr c4;have c4b1:(a0 != 92)=false:=bne_eq_false_iff_eq.mpr c4;clear c4;have H':=Aside0.mk H;clear H;go_wp2;go_meet
    case rel=>exact ⟨_,((a0 == 92)),(by first|rfl|(simp;done)|(simp [*];done)),H',⟨by first|omega|exact Nat.le_refl _⟩,by repeat (first|exact Drawn0.refl _|apply Drawn0.step)⟩
   ·rw [if_neg c4] at H;have c4b0:(a0 == 92)=false:=beq_eq_false_iff_ne.mpr c4;have c4b1:(a0 != 92)=true:=bne_iff_ne.mpr c4;have H':=Aside0.mk H;clear H;go_wp2;go_meet
    case rel=>exact ⟨_,((a0 == 47)),(by first|rfl|(simp;done)|(simp [*];done)),H',⟨by first|omega|exact Nat.le_refl _⟩,by repeat (first|exact Drawn0.refl _|apply Drawn0.step)⟩
 case rest=>
  clear HC2;(try clear p2);(try clear c3);(try clear c3b0);(try clear c3b1);(try clear c4);(try clear c4b0);(try clear c4b1);obtain ⟨kq,x5_1,rfl,HA,HJ1,⟨mc1,rfl⟩⟩:=hcut;cases kq with
  | zero=>exact absurd HA.out (by simp [placketref02_escape.j0])
  | succ kj1=>
   have H:=HA.out;clear HA;simp only [placketref02_escape.j0] at H;by_cases c5:x5_1=true
   ·subst c5;(have H1:(some (a0,true))=some (r1,r2):=by rw [if_pos rfl] at H;exact H);clear H;have H:=H1;clear H1;simp only [Option.some.injEq,Prod.mk.injEq] at H;obtain ⟨rfl,rfl⟩:=H;go_wp2;go_ret2;exact ⟨by first|rfl|(simp;done)|(simp [*];done),by repeat (first|exact Drawn0.refl _|apply Drawn0.step)⟩
   ·replace c5:=Bool.eq_false_iff.mpr c5;subst c5;(have H1:(if a0=110 then (some (10,true)) else (if a0=116 then (some (9,true)) else (if a0=114 then (some (13,true)) else (some (0,false)))))=some (r1,r2):=by rw [if_neg (show ¬ (false=true) by decide)] at H;exact H);clear H;have H:=H1;clear H1;by_cases c6:a0=110
    ·rw [if_pos c6] at H;have c6b0:(a0 == 110)=true:=beq_iff_eq.mpr c6;have c6b1:(a0 != 110)=false:=bne_eq_false_iff_eq.mpr c6;clear c6;simp only [Option.some.injEq,Prod.mk.injEq] at H;obtain ⟨rfl,rfl⟩:=H;go_wp2;go_ret2;exact ⟨by first|rfl|(simp;done)|(simp [*];done),by repeat (first|exact Drawn0.refl _|apply Drawn0.step)⟩
    ·rw [if_neg c6] at H;have c6b0:(a0 == 110)=false:=beq_eq_false_iff_ne.mpr c6;have c6b1:(a0 != 110)=true:=bne_iff_ne.mpr c6;by_cases c7:a0=116
     ·rw [if_pos c7] at H;have c7b0:(a0 == 116)=true:=beq_iff_eq.mpr c7;have c7b1:(a0 != 116)=false:=bne_eq_false_iff_eq.mpr c7;clear c7;simp only [Option.some.injEq,Prod.mk.injEq] at H;obtain ⟨rfl,rfl⟩:=H;go_wp2;go_ret2;exact ⟨by first|rfl|(simp;done)|(simp [*];done),by repeat (first|exact Drawn0.refl _|apply Drawn0.step)⟩
     ·rw [if_neg c7] at H;have c7b0:(a0 == 116)=false:=beq_eq_false_iff_ne.mpr c7;have c7b1:(a0 != 116)=true:=bne_iff_ne.mpr c7;by_cases c8:a0=114
      ·rw [if_pos c8] at H;have c8b0:(a0 == 114)=true:=beq_iff_eq.mpr c8;have c8b1:(a0 != 114)=false:=bne_eq_false_iff_eq.mpr c8;clear c8;simp only [Option.some.injEq,Prod.mk.injEq] at H;obtain ⟨rfl,rfl⟩:=H;go_wp2;go_ret2;exact ⟨by first|rfl|(simp;done)|(simp [*];done),by repeat (first|exact Drawn0.refl _|apply Drawn0.step)⟩
      ·rw [if_neg c8] at H;have c8b0:(a0 == 114)=false:=beq_eq_false_iff_ne.mpr c8;have c8b1:(a0 != 114)=true:=bne_iff_ne.mpr c8;simp only [Option.some.injEq,Prod.mk.injEq] at H;obtain ⟨rfl,rfl⟩:=H;go_wp2;go_ret2;exact ⟨by first|rfl|(simp;done)|(simp [*];done),by repeat (first|exact Drawn0.refl _|apply Drawn0.step)⟩
mutual
def placketref02_value.j0:Nat→Int→Bool→Bool→Option (Int)
 | 0,_,_,_=>none
 | k+1,x0,x1,x5=>if x5=true then (some ((x0 - 48) % 256)) else (if x0 ≥ 97 then (placketref02_value.j1 k x0 x1 (decide (x0≤102))) else (placketref02_value.j1 k x0 x1 false))
def placketref02_value.j1:Nat→Int→Bool→Bool→Option (Int)
 | 0,_,_,_=>none
 | k+1,x0,x1,x14=>if x14=true then (some (((x0 - 97)+10) % 256)) else (if x1=true then (if x0 ≥ 65 then (if x0≤70 then (some (((x0 - 65)+10) % 256)) else (some 16)) else (some 16)) else (some 16))
end
def placketref02_value.f (k:Nat) (a0:Int) (a1:Bool):Option (Int):=if a0 ≥ 48 then (placketref02_value.j0 k a0 a1 (decide (a0≤57))) else (placketref02_value.j0 k a0 a1 false)
set_option maxHeartbeats 8000000 in
set_option maxRecDepth 100000 in
theorem placketref02_value.calls (k:Nat) (a0:Int) (a1:Bool) (r:Int) (w:World) (h:placketref02_value.f k a0 a1=some r) :
  Calls Tryd.prog 82 #[.int .u8 a0,.bool a1] w fun e w'=>e = .returned (.int .u8 r)∧Drawn0 w w':=by
 have H:(if a0 ≥ 48 then (placketref02_value.j0 k a0 a1 (decide (a0≤57))) else (placketref02_value.j0 k a0 a1 false))=some r:=h;clear h;have HC3:=Aside0.mk H;clear H;(go_enter Tryd.func82,Tryd.ntmps82);(go_upto_region 1 with (fail));go_cut [5] (fun v5 wc=>∃ (kq:Nat) (x5_2:Bool),v5 = .bool x5_2∧Aside0 (placketref02_value.j0 kq a0 a1 x5_2=some r)∧Aside0 (kq≤k)∧Drawn0 w wc)
 case first=>
  have H:=HC3.out;clear HC3;by_cases c4:a0 ≥ 48
  ·rw [if_pos c4] at H;have c4b0:decide (48≤a0)=true:=decide_eq_true c4;clear c4
   (first|rw [c4b0]|(simp only [i64_w,i32_w];rw [c4b0])|skip)
   have H':=Aside0.mk H;clear H;go_wp2;go_meet
   case rel=>exact ⟨_,(decide (a0≤57)),(by first|rfl|(simp;done)|(simp [*];done)),H',⟨by first|omega|exact Nat.le_refl _⟩,by repeat (first|exact Drawn0.refl _|apply Drawn0.step)⟩
  ·rw [if_neg c4] at H;have c4b0:decide (48≤a0)=false:=decide_eq_false c4;clear c4
   (first|rw [c4b0]|(simp only [i64_w,i32_w];rw [c4b0])|skip)
   have H':=Aside0.mk H;clear H;go_wp2;go_meet
   case rel=>exact ⟨_,(false),(by first|rfl|(simp;done)|(simp [*];done)),H',⟨by first|omega|exact Nat.le_refl _⟩,by repeat (first|exact Drawn0.refl _|apply Drawn0.step)⟩
 case rest=>
  clear HC3;(try clear p2);(try clear c4);(try clear c4b0);obtain ⟨kq,x5_2,rfl,HA,HJ2,⟨mc2,rfl⟩⟩:=hcut;cases kq with
  | zero=>exact absurd HA.out (by simp [placketref02_value.j0])
  | succ kj2=>
   have H:=HA.out;clear HA;simp only [placketref02_value.j0] at H;by_cases c5:x5_2=true
   ·subst c5;(have H1:(some ((a0 - 48) % 256))=some r:=by rw [if_pos rfl] at H;exact H);clear H;have H:=H1;clear H1;obtain rfl:=Option.some.inj H;go_wp2;go_ret;exact ⟨by first|rfl|(simp;done)|(simp [*];done),by repeat (first|exact Drawn0.refl _|apply Drawn0.step)⟩
   ·replace c5:=Bool.eq_false_iff.mpr c5;subst c5;(have H1:(if a0 ≥ 97 then (placketref02_value.j1 kj2 a0 a1 (decide (a0≤102))) else (placketref02_value.j1 kj2 a0 a1 false))=some r:=by rw [if_neg (show ¬ (false=true) by decide)] at H;exact H);clear H;have H:=H1;clear H1;have HC6:=Aside0.mk H;clear H;(go_upto_region 3 with (fail));go_cut [14] (fun v14 wc=>∃ (kq:Nat) (x14_5:Bool),v14 = .bool x14_5∧Aside0 (placketref02_value.j1 kq a0 a1 x14_5=some r)∧Aside0 (kq≤kj2)∧Drawn0 w wc)
    case first=>
     have H:=HC6.out;clear HC6;by_cases c7:a0 ≥ 97
     ·rw [if_pos c7] at H;have c7b0:decide (97≤a0)=true:=decide_eq_true c7;clear c7
      (first|rw [c7b0]|(simp only [i64_w,i32_w];rw [c7b0])|skip)
      have H':=Aside0.mk H;clear H;go_wp2;go_meet
      case rel=>exact ⟨_,(decide (a0≤102)),(by first|rfl|(simp;done)|(simp [*];done)),H',⟨by have:=HJ2.out;first|omega|exact Nat.le_refl _⟩,by repeat (first|exact Drawn0.refl _|apply Drawn0.step)⟩
     ·rw [if_neg c7] at H;have c7b0:decide (97≤a0)=false:=decide_eq_false c7;clear c7
      (first|rw [c7b0]|(simp only [i64_w,i32_w];rw [c7b0])|skip)
      have H':=Aside0.mk H;clear H;go_wp2;go_meet
      case rel=>exact ⟨_,(false),(by first|rfl|(simp;done)|(simp [*];done)),H',⟨by have:=HJ2.out;first|omega|exact Nat.le_refl _⟩,by repeat (first|exact Drawn0.refl _|apply Drawn0.step)⟩
    case rest=>
     clear HC6;(try clear c2);(try clear p2);(try clear c4);(try clear c4b0);(try clear c5);(try clear c7);(try clear c7b0);(try clear p2);obtain ⟨kq,x14_5,rfl,HA,HJ5,⟨mc5,rfl⟩⟩:=hcut;cases kq with
     | zero=>exact absurd HA.out (by simp [placketref02_value.j1])
     | succ kj5=>
      have H:=HA.out;clear HA;simp only [placketref02_value.j1] at H;by_cases c8:x14_5=true
      ·subst c8;(have H1:(some (((a0 - 97)+10) % 256))=some r:=by rw [if_pos rfl] at H;exact H);clear H;have H:=H1;clear H1;obtain rfl:=Option.some.inj H;go_wp2;go_ret;exact ⟨by first|rfl|(simp;done)|(simp [*];done),by repeat (first|exact Drawn0.refl _|apply Drawn0.step)⟩
      ·replace c8:=Bool.eq_false_iff.mpr c8;subst c8;(have H1:(if a1=true then (if a0 ≥ 65 then (if a0≤70 then (some (((a0 - 65)+10) % 256)) else (some 16)) else (some 16)) else (some 16))=some r:=by rw [if_neg (show ¬ (false=true) by decide)] at H;exact H);clear H;have H:=H1;clear H1;by_cases c9:a1=true
       ·subst c9;(have H1:(if a0 ≥ 65 then (if a0≤70 then (some (((a0 - 65)+10) % 256)) else (some 16)) else (some 16))=some r:=by rw [if_pos rfl] at H;exact H);clear H;have H:=H1;clear H1;by_cases c10:a0 ≥ 65
        ·rw [if_pos c10] at H;have c10b0:decide (65≤a0)=true:=decide_eq_true c10;clear c10;by_cases c11:a0≤70
         ·rw [if_pos c11] at H;have c11b0:decide (a0≤70)=true:=decide_eq_true c11;clear c11;obtain rfl:=Option.some.inj H;go_wp2;go_ret;exact ⟨by first|rfl|(simp;done)|(simp [*];done),by repeat (first|exact Drawn0.refl _|apply Drawn0.step)⟩
         ·rw [if_neg c11] at H;have c11b0:decide (a0≤70)=false:=decide_eq_false c11;clear c11;obtain rfl:=Option.some.inj H;go_wp2;go_ret;exact ⟨by first|rfl|(simp;done)|(simp [*];done),by repeat (first|exact Drawn0.refl _|apply Drawn0.step)⟩
        ·rw [if_neg c10] at H;have c10b0:decide (65≤a0)=false:=decide_eq_false c10;clear c10;obtain rfl:=Option.some.inj H;go_wp2;go_ret;exact ⟨by first|rfl|(simp;done)|(simp [*];done),by repeat (first|exact Drawn0.refl _|apply Drawn0.step)⟩
       ·replace c9:=Bool.eq_false_iff.mpr c9;subst c9;(have H1:(some 16)=some r:=by rw [if_neg (show ¬ (false=true) by decide)] at H;exact H);clear H;have H:=H1;clear H1;obtain rfl:=Option.some.inj H;go_wp2;go_ret;exact ⟨by first|rfl|(simp;done)|(simp [*];done),by repeat (first|exact Drawn0.refl _|apply Drawn0.step)⟩
mutual
def placketref02_Unquote.l0:Nat→ByteArray→List Int→Int→Option (ByteArray × Int × Int)
 | 0,_,_,_=>none
 | k+1,x0,x5,x6=>if x6 < (x0.size:Int) then (if 0≤x6 then (if (bt x0 x6)=34 then (some (strOfNums x5,wrap64 (x6+1),0)) else (if (bt x0 x6) < 32 then (some ((⟨#[]⟩:ByteArray),x6,2)) else (if (bt x0 x6)=92 then (if (wrap64 (x6+1))=(x0.size:Int) then (some ((⟨#[]⟩:ByteArray),(x0.size:Int),10)) else (if 0≤(wrap64 (x6+1)) then (if (wrap64 (x6+1)) < (x0.size:Int) then (if (bt x0 (wrap64 (x6+1)))=120 then (placketref02_Unquote.l1 k x0 x5 (wrap64 (x6+1)) 0 1) else ((placketref02_escape.f k (bt x0 (wrap64 (x6+1)))).bind fun bt143=>(if bt143.2=true then (if x5.length < 140737488355328 then (placketref02_Unquote.l0 k x0 (x5++[bt143.1]) (wrap64 ((wrap64 (x6+1))+1))) else (none)) else (some ((⟨#[]⟩:ByteArray),wrap64 (x6+1),2))))) else (none)) else (none))) else (if x5.length < 140737488355328 then (placketref02_Unquote.l0 k x0 (x5++[bt x0 x6]) (wrap64 (x6+1))) else (none))))) else (none)) else (some ((⟨#[]⟩:ByteArray),(x0.size:Int),10))
def placketref02_Unquote.l1:Nat→ByteArray→List Int→Int→Int→Int→Option (ByteArray × Int × Int)
 | 0,_,_,_,_,_=>none
 | k+1,x0,x5,x6,x10,x11=>if x11 < 3 then (if (wrap64 (x6+x11)) ≥ (x0.size:Int) then (some ((⟨#[]⟩:ByteArray),(x0.size:Int),10)) else (if 0≤(wrap64 (x6+x11)) then (if (wrap64 (x6+x11)) < (x0.size:Int) then ((placketref02_value.f k (bt x0 (wrap64 (x6+x11))) true).bind fun t151=>(if t151 > 15 then (some ((⟨#[]⟩:ByteArray),wrap64 (x6+x11),2)) else (placketref02_Unquote.l1 k x0 x5 x6 (((16 * x10)+t151) % 256) (wrap64 (x11+1))))) else (none)) else (none))) else (if x5.length < 140737488355328 then (placketref02_Unquote.l0 k x0 (x5++[x10]) (wrap64 (x6+3))) else (none))
end
def placketref02_Unquote.f (k:Nat) (a0:ByteArray):Option (ByteArray × Int × Int):=if (a0.size:Int)=0 then (some ((⟨#[]⟩:ByteArray),0,10)) else (if 0 < (a0.size:Int) then (if (bt a0 0)=34 then (placketref02_Unquote.l0 k a0 ([]:List Int) 1) else (some ((⟨#[]⟩:ByteArray),0,2))) else (none))
set_option maxHeartbeats 8000000 in
set_option maxRecDepth 100000 in
theorem placketref02_Unquote.calls (k:Nat) (a0:ByteArray) (r1:ByteArray) (r2:Int) (r3:Int) (w:World) (h:placketref02_Unquote.f k a0=some (r1,r2,r3)) :
  Calls Tryd.prog 50 #[.string a0] w fun e w'=>e = .returned (.tuple #[.string r1,.int .i64 r2,.int .i64 r3])∧Below w.heap.size w w':=by
 have HB:=Aside0.mk (Below.refl w.heap.size w);have H:(if (a0.size:Int)=0 then (some ((⟨#[]⟩:ByteArray),0,10)) else (if 0 < (a0.size:Int) then (if (bt a0 0)=34 then (placketref02_Unquote.l0 k a0 ([]:List Int) 1) else (some ((⟨#[]⟩:ByteArray),0,2))) else (none)))=some (r1,r2,r3):=h;clear h;by_cases c2:(a0.size:Int)=0
 ·rw [if_pos c2] at H;have c2b0:((a0.size:Int) == 0)=true:=beq_iff_eq.mpr c2;have c2b1:((a0.size:Int) != 0)=false:=bne_eq_false_iff_eq.mpr c2;clear c2;simp only [Option.some.injEq,Prod.mk.injEq] at H;obtain ⟨rfl,rfl,rfl⟩:=H;(go_enter Tryd.func50,Tryd.ntmps50);go_wp2;go_ret3;exact ⟨by first|rfl|(simp [errW_none,errW_some] <;> rfl)|(simp [*,errW_none,errW_some] <;> rfl),bw HB.out⟩
 ·rw [if_neg c2] at H;have c2b0:((a0.size:Int) == 0)=false:=beq_eq_false_iff_ne.mpr c2;have c2b1:((a0.size:Int) != 0)=true:=bne_iff_ne.mpr c2;by_cases c3:0 < (a0.size:Int)
  ·rw [if_pos c3] at H;have c3b0:decide (0 < (a0.size:Int))=true:=decide_eq_true c3;have c3b1:decide (0 < a0.size)=true:=decide_eq_true (by omega);clear c3;by_cases c5:(bt a0 0)=34
   ·rw [if_pos c5] at H;have c5b0:((bt a0 0) == 34)=true:=beq_iff_eq.mpr c5;have c5b1:((bt a0 0) != 34)=false:=bne_eq_false_iff_eq.mpr c5;clear c5;have H':=Aside0.mk H;clear H;have p4:0≤(0:Int):=(by omega);have q4:0 < a0.size:=(by have:(0:Int) < (a0.size:Int):=of_decide_eq_true (by assumption);omega);have hx4:∀ h:0 < a0.size,((a0[0]'h).toNat:Int)=bt a0 0:=bt_at a0 0;clear p4;have qi4:(0 < (a0.size:Int))=True:=eq_true (of_decide_eq_true (by assumption));replace q4:=eq_true q4;(go_enter Tryd.func50,Tryd.ntmps50);go_wp2;go_loopg [5,6] k (fun kq v5 v6 w'=>∃ (x5_1:List Int) (x6_1:Int),v6 = .int .i64 x6_1∧Aside0 (placketref02_Unquote.l0 kq a0 x5_1 x6_1=some (r1,r2,r3))∧Aside0 (kq≤k)∧Aside0 (Kd.R (Kd.int .u8) 5 w' w.heap.size (fun _=>True) v5 x5_1)∧Aside0 (Below w.heap.size w w'))
    case atStart=>exact ⟨(([]:List Int)),(1),(by first|rfl|(simp;done)|(simp [*];done)),H',⟨Nat.le_refl _⟩,⟨by first|exact Kd.R_nil _ _ _ _ _|exact Kd.Q_nil _ _ _ _ _⟩,⟨bw HB.out⟩⟩
    case round=>
     clear H';(try clear c2);(try clear c2b0);(try clear c2b1);(try clear p2);(try clear c3);(try clear c3b0);(try clear c3b1);(try clear p4);(try clear q4);(try clear hx4);(try clear qi4);(try clear c5);(try clear c5b0);(try clear c5b1);(try clear p4);(try clear q4);obtain ⟨x5_1,x6_1,rfl,HA,HK1,HO_5,HB⟩:=hrel;cases gk with
     | zero=>exact absurd HA.out (by simp [placketref02_Unquote.l0])
     | succ k1=>
      have H:=HA.out;clear HA;simp only [placketref02_Unquote.l0] at H;by_cases c6:x6_1 < (a0.size:Int)
      ·rw [if_pos c6] at H;have c6b0:decide (x6_1 < (a0.size:Int))=true:=decide_eq_true c6;clear c6;by_cases c7:0≤x6_1
       ·rw [if_pos c7] at H;have c7b0:decide (0≤x6_1)=true:=decide_eq_true c7;clear c7;by_cases c9:(bt a0 x6_1)=34
        ·rw [if_pos c9] at H;have c9b0:((bt a0 x6_1) == 34)=true:=beq_iff_eq.mpr c9;have c9b1:((bt a0 x6_1) != 34)=false:=bne_eq_false_iff_eq.mpr c9;clear c9;simp only [Option.some.injEq,Prod.mk.injEq] at H;obtain ⟨rfl,rfl,rfl⟩:=H;have p8:0≤(x6_1:Int):=of_decide_eq_true (by assumption);have q8:x6_1 < (a0.size:Int):=of_decide_eq_true (by assumption);have hx8:=bt_at a0 x6_1;replace p8:=eq_true p8;replace q8:=eq_true q8;have hcv10:=own_string (P:=Tryd.prog) Tryd.underlying44 Tryd.underlying5 Tryd.underlying9 (Kd.own_of_R HO_5.out);go_wp2;go_ret3;exact ⟨by first|rfl|(simp [errW_none,errW_some] <;> rfl)|(simp [*,errW_none,errW_some] <;> rfl),bw HB.out⟩
        ·rw [if_neg c9] at H;have c9b0:((bt a0 x6_1) == 34)=false:=beq_eq_false_iff_ne.mpr c9;have c9b1:((bt a0 x6_1) != 34)=true:=bne_iff_ne.mpr c9;by_cases c11:(bt a0 x6_1) < 32
         ·rw [if_pos c11] at H;have c11b0:decide ((bt a0 x6_1) < 32)=true:=decide_eq_true c11;clear c11;simp only [Option.some.injEq,Prod.mk.injEq] at H;obtain ⟨rfl,rfl,rfl⟩:=H;have p8:0≤(x6_1:Int):=of_decide_eq_true (by assumption);have q8:x6_1 < (a0.size:Int):=of_decide_eq_true (by assumption);have hx8:=bt_at a0 x6_1;replace p8:=eq_true p8;replace q8:=eq_true q8;go_wp2;go_ret3;exact ⟨by first|rfl|(simp [errW_none,errW_some] <;> rfl)|(simp [*,errW_none,errW_some] <;> rfl),bw HB.out⟩
         ·rw [if_neg c11] at H;have c11b0:decide ((bt a0 x6_1) < 32)=false:=decide_eq_false c11;clear c11;by_cases c12:(bt a0 x6_1)=92
          ·rw [if_pos c12] at H;have c12b0:((bt a0 x6_1) == 92)=true:=beq_iff_eq.mpr c12;have c12b1:((bt a0 x6_1) != 92)=false:=bne_eq_false_iff_eq.mpr c12;clear c12;by_cases c13:(wrap64 (x6_1+1))=(a0.size:Int)
           ·rw [if_pos c13] at H;have c13b0:((wrap64 (x6_1+1)) == (a0.size:Int))=true:=beq_iff_eq.mpr c13;have c13b1:((wrap64 (x6_1+1)) != (a0.size:Int))=false:=bne_eq_false_iff_eq.mpr c13;clear c13;simp only [Option.some.injEq,Prod.mk.injEq] at H;obtain ⟨rfl,rfl,rfl⟩:=H;have p8:0≤(x6_1:Int):=of_decide_eq_true (by assumption);have q8:x6_1 < (a0.size:Int):=of_decide_eq_true (by assumption);have hx8:=bt_at a0 x6_1;replace p8:=eq_true p8;replace q8:=eq_true q8;go_wp2;go_ret3;exact ⟨by first|rfl|(simp [errW_none,errW_some] <;> rfl)|(simp [*,errW_none,errW_some] <;> rfl),bw HB.out⟩
           ·rw [if_neg c13] at H;have c13b0:((wrap64 (x6_1+1)) == (a0.size:Int))=false:=beq_eq_false_iff_ne.mpr c13;have c13b1:((wrap64 (x6_1+1)) != (a0.size:Int))=true:=bne_iff_ne.mpr c13;obtain ⟨ji14,hji14⟩:∃ j_:Int,(wrap64 (x6_1+1))=j_:=⟨_,rfl⟩;replace H:(if 0≤(ji14) then (if (ji14) < (a0.size:Int) then (if (bt a0 (ji14))=120 then (placketref02_Unquote.l1 k1 a0 x5_1 ji14 0 1) else ((placketref02_escape.f k1 (bt a0 (ji14))).bind fun bt143=>(if bt143.2=true then (if x5_1.length < 140737488355328 then (placketref02_Unquote.l0 k1 a0 (x5_1++[bt143.1]) (wrap64 ((ji14)+1))) else (none)) else (some ((⟨#[]⟩:ByteArray),ji14,2))))) else (none)) else (none))=some (r1,r2,r3):=by first|(rw [hji14] at H;exact H)|(simp only [hji14] at H ⊢;exact H)
            (try rw [hji14] at c13b0)
            (try rw [hji14] at c13b1)
            have hji14w:(IntKind.i64.wrap (x6_1+1))=ji14:=(i64_w _).trans hji14;by_cases c15:0≤(ji14)
            ·rw [if_pos c15] at H;have c15b0:decide (0≤(ji14))=true:=decide_eq_true c15;clear c15;by_cases c16:(ji14) < (a0.size:Int)
             ·rw [if_pos c16] at H;have c16b0:decide ((ji14) < (a0.size:Int))=true:=decide_eq_true c16;clear c16;by_cases c18:(bt a0 (ji14))=120
              ·rw [if_pos c18] at H;have c18b0:((bt a0 (ji14)) == 120)=true:=beq_iff_eq.mpr c18;have c18b1:((bt a0 (ji14)) != 120)=false:=bne_eq_false_iff_eq.mpr c18;clear c18;have H':=Aside0.mk H;clear H;have p8:0≤(x6_1:Int):=of_decide_eq_true (by assumption);have q8:x6_1 < (a0.size:Int):=of_decide_eq_true (by assumption);have hx8:=bt_at a0 x6_1;replace p8:=eq_true p8;replace q8:=eq_true q8;have p17:0≤((ji14):Int):=of_decide_eq_true (by assumption);have q17:(ji14) < (a0.size:Int):=of_decide_eq_true (by assumption);have hx17:=bt_at a0 (ji14);replace p17:=eq_true p17;replace q17:=eq_true q17;go_wp2;go_loopg [10,11] k1 (fun kq v10 v11 w'=>∃ (x10_2:Int) (x11_2:Int),v10 = .int .u8 x10_2∧v11 = .int .i64 x11_2∧Aside0 (placketref02_Unquote.l1 kq a0 x5_1 ji14 x10_2 x11_2=some (r1,r2,r3))∧Aside0 (kq≤k1)∧Aside0 (Kd.R (Kd.int .u8) 5 w' w.heap.size (fun _=>True) u5 x5_1)∧Aside0 (Below w.heap.size w w'))
               case atStart=>exact ⟨(0),(1),(by first|rfl|(simp;done)|(simp [*];done)),(by first|rfl|(simp;done)|(simp [*];done)),H',⟨Nat.le_refl _⟩,⟨by (with_reducible repeat (first|apply Kd.R_alloc|apply Kd.R_drewN|apply Kd.R_drew));exact HO_5.out⟩,⟨bw HB.out⟩⟩
               case round=>
                clear H';(try clear c1);(try clear p1);(try clear q1);(try clear hx1);(try clear hcv1);(try clear c2);(try clear c2b0);(try clear c2b1);(try clear p2);(try clear c3);(try clear c3b0);(try clear c3b1);(try clear p4);(try clear q4);(try clear hx4);(try clear qi4);(try clear c5);(try clear c5b0);(try clear c5b1);(try clear c6);(try clear c6b0);(try clear p6);(try clear c7);(try clear c7b0);(try clear p8);(try clear q8);(try clear hx8);(try clear c9);(try clear c9b0);(try clear c9b1);(try clear hcv10);(try clear c11);(try clear c11b0);(try clear c12);(try clear c12b0);(try clear c12b1);(try clear c13);(try clear c13b0);(try clear c13b1);(try clear c15);(try clear c15b0);(try clear c16);(try clear c16b0);(try clear p17);(try clear q17);(try clear hx17);(try clear c18);(try clear c18b0);(try clear c18b1);(try clear p17);(try clear p2);(try clear p4);(try clear p8);(try clear q17);(try clear q4);(try clear q8);obtain ⟨x10_2,x11_2,rfl,rfl,HA,HK2,HO_5,HB⟩:=hrel;cases gk with
                | zero=>exact absurd HA.out (by simp [placketref02_Unquote.l1])
                | succ k2=>
                 have H:=HA.out;clear HA;simp only [placketref02_Unquote.l1] at H;by_cases c19:x11_2 < 3
                 ·rw [if_pos c19] at H;have c19b0:decide (x11_2 < 3)=true:=decide_eq_true c19;clear c19;by_cases c20:(wrap64 (ji14+x11_2)) ≥ (a0.size:Int)
                  ·rw [if_pos c20] at H;have c20b0:decide ((a0.size:Int)≤(wrap64 (ji14+x11_2)))=true:=decide_eq_true c20;clear c20;simp only [Option.some.injEq,Prod.mk.injEq] at H;obtain ⟨rfl,rfl,rfl⟩:=H;go_wp2;go_ret3;exact ⟨by first|rfl|(simp [errW_none,errW_some] <;> rfl)|(simp only [← hji14];first|rfl|(simp [errW_none,errW_some] <;> rfl))|(simp [*,errW_none,errW_some] <;> rfl),bw HB.out⟩
                  ·rw [if_neg c20] at H;have c20b0:decide ((a0.size:Int)≤(wrap64 (ji14+x11_2)))=false:=decide_eq_false c20;clear c20;obtain ⟨ji21,hji21⟩:∃ j_:Int,(wrap64 (ji14+x11_2))=j_:=⟨_,rfl⟩;replace H:(if 0≤(ji21) then (if (ji21) < (a0.size:Int) then ((placketref02_value.f k2 (bt a0 (ji21)) true).bind fun t151=>(if t151 > 15 then (some ((⟨#[]⟩:ByteArray),ji21,2)) else (placketref02_Unquote.l1 k2 a0 x5_1 ji14 (((16 * x10_2)+t151) % 256) (wrap64 (x11_2+1))))) else (none)) else (none))=some (r1,r2,r3):=by first|(rw [hji21] at H;exact H)|(simp only [hji21] at H ⊢;exact H)
                   (try rw [hji21] at c20b0)
                   have hji21w:(IntKind.i64.wrap (ji14+x11_2))=ji21:=(i64_w _).trans hji21;by_cases c22:0≤(ji21)
                   ·rw [if_pos c22] at H;have c22b0:decide (0≤(ji21))=true:=decide_eq_true c22;clear c22;by_cases c23:(ji21) < (a0.size:Int)
                    ·rw [if_pos c23] at H;have c23b0:decide ((ji21) < (a0.size:Int))=true:=decide_eq_true c23;clear c23;replace H:=Option.bind_eq_some_iff.mp H;obtain ⟨t151,A250,H⟩:=H;replace H:(if t151 > 15 then (some ((⟨#[]⟩:ByteArray),ji21,2)) else (placketref02_Unquote.l1 k2 a0 x5_1 ji14 (((16 * x10_2)+t151) % 256) (wrap64 (x11_2+1))))=some (r1,r2,r3):=H;have A25:=Aside0.mk A250;clear A250;by_cases c26:t151 > 15
                     ·rw [if_pos c26] at H;have c26b0:decide (15 < t151)=true:=decide_eq_true c26;clear c26;simp only [Option.some.injEq,Prod.mk.injEq] at H;obtain ⟨rfl,rfl,rfl⟩:=H;have p24:0≤((ji21):Int):=of_decide_eq_true (by assumption);have q24:(ji21) < (a0.size:Int):=of_decide_eq_true (by assumption);have hx24:=bt_at a0 (ji21);replace p24:=eq_true p24;replace q24:=eq_true q24;go_wp2_with (first|((with_reducible refine gate_callee (f:=82) rfl ?_);refine goesL_ (some 86) rfl rfl Tryd.func82 (by kernel_rfl) rfl #[.int .u8 (bt a0 (ji21)),.bool true] rfl (by (try simp only [List.map_toArray,List.map_cons,List.map_nil]);first|done|(simp only [hji21];rfl)|rfl|(simp only [List.length_drop,List.length_take];rfl)) ?_;(with_reducible refine (placketref02_value.calls k2 (bt a0 (ji21)) true t151 _ A25.out).mono ?_);rintro e w' ⟨rfl,⟨nd,rfl⟩⟩;refine ⟨_,rfl,?_⟩));go_ret3;exact ⟨by first|rfl|(simp [errW_none,errW_some] <;> rfl)|(simp only [← hji14,← hji21];first|rfl|(simp [errW_none,errW_some] <;> rfl))|(simp [*,errW_none,errW_some] <;> rfl),bw HB.out⟩
                     ·rw [if_neg c26] at H;have c26b0:decide (15 < t151)=false:=decide_eq_false c26;clear c26;have H':=Aside0.mk H;clear H;have p24:0≤((ji21):Int):=of_decide_eq_true (by assumption);have q24:(ji21) < (a0.size:Int):=of_decide_eq_true (by assumption);have hx24:=bt_at a0 (ji21);replace p24:=eq_true p24;replace q24:=eq_true q24;go_wp2_with (first|((with_reducible refine gate_callee (f:=82) rfl ?_);refine goesL_ (some 86) rfl rfl Tryd.func82 (by kernel_rfl) rfl #[.int .u8 (bt a0 (ji21)),.bool true] rfl (by (try simp only [List.map_toArray,List.map_cons,List.map_nil]);first|done|(simp only [hji21];rfl)|rfl|(simp only [List.length_drop,List.length_take];rfl)) ?_;(with_reducible refine (placketref02_value.calls k2 (bt a0 (ji21)) true t151 _ A25.out).mono ?_);rintro e w' ⟨rfl,⟨nd,rfl⟩⟩;refine ⟨_,rfl,?_⟩));go_roundg k2
                      case measure=>have:=HK1.out;have:=HK2.out;omega
                      case rel=>exact ⟨(((16 * x10_2)+t151) % 256),(wrap64 (x11_2+1)),(by first|rfl|(simp;done)|(simp [*];done)),(by first|rfl|(simp;done)|(simp [*];done)),H',⟨by have:=HK1.out;have:=HK2.out;omega⟩,⟨by (with_reducible repeat (first|apply Kd.R_alloc|apply Kd.R_drewN|apply Kd.R_drew));exact HO_5.out⟩,⟨bw HB.out⟩⟩
                    ·rw [if_neg c23] at H;exact absurd H (by simp)
                   ·rw [if_neg c22] at H;exact absurd H (by simp)
                 ·rw [if_neg c19] at H;have c19b0:decide (x11_2 < 3)=false:=decide_eq_false c19;clear c19;by_cases c27:x5_1.length < 140737488355328
                  ·rw [if_pos c27] at H;have LMc27:=Aside0.mk c27;clear c27;obtain ⟨y148,hy148⟩:∃ y_:List Int,y_=(x5_1++[x10_2]):=⟨_,rfl⟩;(replace H:(placketref02_Unquote.l0 k2 a0 y148 (wrap64 (ji14+3)))=some (r1,r2,r3):=by first|(rw [hy148];with_reducible exact H)|(have H2_:=(Option.bind_some _ _).symm.trans H;rw [hy148];with_reducible exact H2_)|(have H2_:=(Option.bind_some _ _).symm.trans H;with_reducible exact H2_)|with_reducible exact H|(rw [hy148];exact H)|exact H);have Ny148:=Aside0.mk hy148;clear hy148;have H':=Aside0.mk H;clear H;go_wp2_with (first|((with_reducible refine gate_builtin (b:=.append) (xs:=#[.tmp 96,.tmp 98]) rfl ?_);at_builtin;refine Kd.R_append (Kd.int .u8) (w0:=w) w.heap.size rfl (.tmp 96) (.tmp 98) 44 5 (.int .u8 0) 1 rfl Tryd.underlying44 info5 rfl (by decide) (by omega) u5 x5_1 x10_2 [.int .u8 x10_2] (fun _=>True) (fun _=>False) rfl rfl ?aP (fun _ hk=>hk.elim) ?aF ?aO ?aB ?aS ?aL ?_;(case aP=>exact rfl);(case aB=>exact (bw HB.out));(case aF=>exact (fun _ _=>trivial));(case aO=>exact (br HO_5.out));(case aS=>exact (below_size (bw HB.out)));(case aL=>have:=LMc27.out;omega);intro v149 w28 ho hb hg hat;rw [← Ny148.out] at ho;have n0_:=Aside0.mk (hb);have n1_:=Aside0.mk (ho);clear HB;clear HO_5;have HB:=n0_;have HO150:=n1_;clear n0_ n1_;clear ho hb hg hat));go_roundg k2
                   case measure=>have:=HK1.out;have:=HK2.out;omega
                   case rel=>exact ⟨(y148),(wrap64 (ji14+3)),(by first|rfl|(simp;done)|(simp only [← hji14] <;> (first|rfl|simp))|(simp [*];done)),H',⟨by have:=HK1.out;have:=HK2.out;omega⟩,⟨by (with_reducible repeat (first|apply Kd.R_alloc|apply Kd.R_drewN|apply Kd.R_drew));exact HO150.out⟩,⟨bw HB.out⟩⟩
                  ·rw [if_neg c27] at H;exact absurd H (by simp)
              ·rw [if_neg c18] at H;have c18b0:((bt a0 (ji14)) == 120)=false:=beq_eq_false_iff_ne.mpr c18;have c18b1:((bt a0 (ji14)) != 120)=true:=bne_iff_ne.mpr c18;replace H:=Option.bind_eq_some_iff.mp H;obtain ⟨⟨t143,t144⟩,A300,H⟩:=H;replace H:(if t144=true then (if x5_1.length < 140737488355328 then (placketref02_Unquote.l0 k1 a0 (x5_1++[t143]) (wrap64 ((ji14)+1))) else (none)) else (some ((⟨#[]⟩:ByteArray),ji14,2)))=some (r1,r2,r3):=H;have A30:=Aside0.mk A300;clear A300;by_cases c31:t144=true
               ·subst c31;(have H1:(if x5_1.length < 140737488355328 then (placketref02_Unquote.l0 k1 a0 (x5_1++[t143]) (wrap64 ((ji14)+1))) else (none))=some (r1,r2,r3):=by rw [if_pos rfl] at H;exact H);clear H;have H:=H1;clear H1;by_cases c32:x5_1.length < 140737488355328
                ·rw [if_pos c32] at H;have LMc32:=Aside0.mk c32;clear c32;obtain ⟨y145,hy145⟩:∃ y_:List Int,y_=(x5_1++[t143]):=⟨_,rfl⟩;(replace H:(placketref02_Unquote.l0 k1 a0 y145 (wrap64 ((ji14)+1)))=some (r1,r2,r3):=by first|(rw [hy145];with_reducible exact H)|(have H2_:=(Option.bind_some _ _).symm.trans H;rw [hy145];with_reducible exact H2_)|(have H2_:=(Option.bind_some _ _).symm.trans H;with_reducible exact H2_)|with_reducible exact H|(rw [hy145];exact H)|exact H);have Ny145:=Aside0.mk hy145;clear hy145;have H':=Aside0.mk H;clear H;have p8:0≤(x6_1:Int):=of_decide_eq_true (by assumption);have q8:x6_1 < (a0.size:Int):=of_decide_eq_true (by assumption);have hx8:=bt_at a0 x6_1;replace p8:=eq_true p8;replace q8:=eq_true q8;have p17:0≤((ji14):Int):=of_decide_eq_true (by assumption);have q17:(ji14) < (a0.size:Int):=of_decide_eq_true (by assumption);have hx17:=bt_at a0 (ji14);replace p17:=eq_true p17;replace q17:=eq_true q17;have p29:0≤((ji14):Int):=of_decide_eq_true (by assumption);have q29:(ji14) < (a0.size:Int):=of_decide_eq_true (by assumption);have hx29:=bt_at a0 (ji14);replace p29:=eq_true p29;replace q29:=eq_true q29;go_wp2_with (first|((with_reducible refine gate_callee (f:=81) rfl ?_);refine goesL_ (some 57) rfl rfl Tryd.func81 (by kernel_rfl) rfl #[.int .u8 (bt a0 (ji14))] rfl (by (try simp only [List.map_toArray,List.map_cons,List.map_nil]);first|done|(simp only [hji14];rfl)|rfl|(simp only [List.length_drop,List.length_take];rfl)) ?_;(with_reducible refine (placketref02_escape.calls k1 (bt a0 (ji14)) t143 true _ A30.out).mono ?_);rintro e w' ⟨rfl,⟨nd,rfl⟩⟩;refine ⟨_,rfl,?_⟩)|((with_reducible refine gate_builtin (b:=.append) (xs:=#[.tmp 63,.tmp 65]) rfl ?_);at_builtin;refine Kd.R_append (Kd.int .u8) (w0:=w) w.heap.size rfl (.tmp 63) (.tmp 65) 44 5 (.int .u8 0) 1 rfl Tryd.underlying44 info5 rfl (by decide) (by omega) u5 x5_1 t143 [.int .u8 t143] (fun _=>True) (fun _=>False) rfl rfl ?aP (fun _ hk=>hk.elim) ?aF ?aO ?aB ?aS ?aL ?_;(case aP=>exact rfl);(case aB=>exact (bw HB.out));(case aF=>exact (fun _ _=>trivial));(case aO=>exact (br HO_5.out));(case aS=>exact (below_size (bw HB.out)));(case aL=>have:=LMc32.out;omega);intro v146 w33 ho hb hg hat;rw [← Ny145.out] at ho;have n0_:=Aside0.mk (hb);have n1_:=Aside0.mk (ho);clear HB;clear HO_5;have HB:=n0_;have HO147:=n1_;clear n0_ n1_;clear ho hb hg hat));go_roundg k1
                 case measure=>have:=HK1.out;omega
                 case rel=>exact ⟨(y145),(wrap64 ((ji14)+1)),(by first|rfl|(simp;done)|(simp only [← hji14] <;> (first|rfl|simp))|(simp [*];done)),H',⟨by have:=HK1.out;omega⟩,⟨by (with_reducible repeat (first|apply Kd.R_alloc|apply Kd.R_drewN|apply Kd.R_drew));exact HO147.out⟩,⟨bw HB.out⟩⟩
                ·rw [if_neg c32] at H;exact absurd H (by simp)
               ·replace c31:=Bool.eq_false_iff.mpr c31;subst c31;(have H1:(some ((⟨#[]⟩:ByteArray),ji14,2))=some (r1,r2,r3):=by rw [if_neg (show ¬ (false=true) by decide)] at H;exact H);clear H;have H:=H1;clear H1;simp only [Option.some.injEq,Prod.mk.injEq] at H;obtain ⟨rfl,rfl,rfl⟩:=H;have p8:0≤(x6_1:Int):=of_decide_eq_true (by assumption);have q8:x6_1 < (a0.size:Int):=of_decide_eq_true (by assumption);have hx8:=bt_at a0 x6_1;replace p8:=eq_true p8;replace q8:=eq_true q8;have p17:0≤((ji14):Int):=of_decide_eq_true (by assumption);have q17:(ji14) < (a0.size:Int):=of_decide_eq_true (by assumption);have hx17:=bt_at a0 (ji14);replace p17:=eq_true p17;replace q17:=eq_true q17;have p29:0≤((ji14):Int):=of_decide_eq_true (by assumption);have q29:(ji14) < (a0.size:Int):=of_decide_eq_true (by assumption);have hx29:=bt_at a0 (ji14);replace p29:=eq_true p29;replace q29:=eq_true q29;go_wp2_with (first|((with_reducible refine gate_callee (f:=81) rfl ?_);refine goesL_ (some 57) rfl rfl Tryd.func81 (by kernel_rfl) rfl #[.int .u8 (bt a0 (ji14))] rfl (by (try simp only [List.map_toArray,List.map_cons,List.map_nil]);first|done|(simp only [hji14];rfl)|rfl|(simp only [List.length_drop,List.length_take];rfl)) ?_;(with_reducible refine (placketref02_escape.calls k1 (bt a0 (ji14)) t143 false _ A30.out).mono ?_);rintro e w' ⟨rfl,⟨nd,rfl⟩⟩;refine ⟨_,rfl,?_⟩));go_ret3;exact ⟨by first|rfl|(simp [errW_none,errW_some] <;> rfl)|(simp only [← hji14];first|rfl|(simp [errW_none,errW_some] <;> rfl))|(simp [*,errW_none,errW_some] <;> rfl),bw HB.out⟩
             ·rw [if_neg c16] at H;exact absurd H (by simp)
            ·rw [if_neg c15] at H;exact absurd H (by simp)
          ·rw [if_neg c12] at H;have c12b0:((bt a0 x6_1) == 92)=false:=beq_eq_false_iff_ne.mpr c12;have c12b1:((bt a0 x6_1) != 92)=true:=bne_iff_ne.mpr c12;by_cases c34:x5_1.length < 140737488355328
           ·rw [if_pos c34] at H;have LMc34:=Aside0.mk c34;clear c34;obtain ⟨y140,hy140⟩:∃ y_:List Int,y_=(x5_1++[bt a0 x6_1]):=⟨_,rfl⟩;(replace H:(placketref02_Unquote.l0 k1 a0 y140 (wrap64 (x6_1+1)))=some (r1,r2,r3):=by first|(rw [hy140];with_reducible exact H)|(have H2_:=(Option.bind_some _ _).symm.trans H;rw [hy140];with_reducible exact H2_)|(have H2_:=(Option.bind_some _ _).symm.trans H;with_reducible exact H2_)|with_reducible exact H|(rw [hy140];exact H)|exact H);have Ny140:=Aside0.mk hy140;clear hy140;have H':=Aside0.mk H;clear H;have p8:0≤(x6_1:Int):=of_decide_eq_true (by assumption);have q8:x6_1 < (a0.size:Int):=of_decide_eq_true (by assumption);have hx8:=bt_at a0 x6_1;replace p8:=eq_true p8;replace q8:=eq_true q8;go_wp2_with (first|((with_reducible refine gate_builtin (b:=.append) (xs:=#[.tmp 37,.tmp 39]) rfl ?_);at_builtin;refine Kd.R_append (Kd.int .u8) (w0:=w) w.heap.size rfl (.tmp 37) (.tmp 39) 44 5 (.int .u8 0) 1 rfl Tryd.underlying44 info5 rfl (by decide) (by omega) u5 x5_1 (bt a0 x6_1) [.int .u8 (bt a0 x6_1)] (fun _=>True) (fun _=>False) rfl rfl ?aP (fun _ hk=>hk.elim) ?aF ?aO ?aB ?aS ?aL ?_;(case aP=>exact rfl);(case aB=>exact (bw HB.out));(case aF=>exact (fun _ _=>trivial));(case aO=>exact (br HO_5.out));(case aS=>exact (below_size (bw HB.out)));(case aL=>have:=LMc34.out;omega);intro v141 w35 ho hb hg hat;rw [← Ny140.out] at ho;have n0_:=Aside0.mk (hb);have n1_:=Aside0.mk (ho);clear HB;clear HO_5;have HB:=n0_;have HO142:=n1_;clear n0_ n1_;clear ho hb hg hat));go_roundg k1
            case measure=>have:=HK1.out;omega
            case rel=>exact ⟨(y140),(wrap64 (x6_1+1)),(by first|rfl|(simp;done)|(simp [*];done)),H',⟨by have:=HK1.out;omega⟩,⟨by (with_reducible repeat (first|apply Kd.R_alloc|apply Kd.R_drewN|apply Kd.R_drew));exact HO142.out⟩,⟨bw HB.out⟩⟩
           ·rw [if_neg c34] at H;exact absurd H (by simp)
       ·rw [if_neg c7] at H;exact absurd H (by simp)
      ·rw [if_neg c6] at H;have c6b0:decide (x6_1 < (a0.size:Int))=false:=decide_eq_false c6;clear c6;simp only [Option.some.injEq,Prod.mk.injEq] at H;obtain ⟨rfl,rfl,rfl⟩:=H;go_wp2;go_ret3;exact ⟨by first|rfl|(simp [errW_none,errW_some] <;> rfl)|(simp [*,errW_none,errW_some] <;> rfl),bw HB.out⟩
   ·rw [if_neg c5] at H;have c5b0:((bt a0 0) == 34)=false:=beq_eq_false_iff_ne.mpr c5;have c5b1:((bt a0 0) != 34)=true:=bne_iff_ne.mpr c5;simp only [Option.some.injEq,Prod.mk.injEq] at H;obtain ⟨rfl,rfl,rfl⟩:=H;have p4:0≤(0:Int):=(by omega);have q4:0 < a0.size:=(by have:(0:Int) < (a0.size:Int):=of_decide_eq_true (by assumption);omega);have hx4:∀ h:0 < a0.size,((a0[0]'h).toNat:Int)=bt a0 0:=bt_at a0 0;clear p4;have qi4:(0 < (a0.size:Int))=True:=eq_true (of_decide_eq_true (by assumption));replace q4:=eq_true q4;(go_enter Tryd.func50,Tryd.ntmps50);go_wp2;go_ret3;exact ⟨by first|rfl|(simp [errW_none,errW_some] <;> rfl)|(simp [*,errW_none,errW_some] <;> rfl),bw HB.out⟩
  ·rw [if_neg c3] at H;exact absurd H (by simp)
end Go.Proofs.YtkbjblhompkdkaaDoor.PA
namespace Go.Proofs.YtkbjblhompkdkaaDoor.PA
open Go.RowKit Go.Proofs.YtkbjblhompkdkaaDoorW.PrintWords Go.Proofs.YtkbjblhompkdkaaDoorW.PrintLast
set_option linter.unusedVariables false
set_option linter.unusedSimpArgs false
def placketref13_digit.f (a0:Int):Option (Bool):=if a0 ≥ 48 then (some (decide (a0≤57))) else (some false)
set_option maxHeartbeats 8000000 in
set_option maxRecDepth 100000 in
theorem placketref13_digit.calls (a0:Int) (r:Bool) (w:World) (h:placketref13_digit.f a0=some r) :
  Calls Tryd.prog 51 #[.int .u8 a0] w fun e w'=>e = .returned (.bool r)∧Drawn0 w w':=by
 have H:(if a0 ≥ 48 then (some (decide (a0≤57))) else (some false))=some r:=h;clear h;by_cases c2:a0 ≥ 48
 ·rw [if_pos c2] at H;have c2b0:decide (48≤a0)=true:=decide_eq_true c2;clear c2;obtain rfl:=Option.some.inj H;(go_enter Tryd.func51,Tryd.ntmps51);go_wp2;go_ret;exact ⟨by first|rfl|(simp;done)|(simp [*];done),by repeat (first|exact Drawn0.refl _|apply Drawn0.step)⟩
 ·rw [if_neg c2] at H;have c2b0:decide (48≤a0)=false:=decide_eq_false c2;clear c2;obtain rfl:=Option.some.inj H;(go_enter Tryd.func51,Tryd.ntmps51);go_wp2;go_ret;exact ⟨by first|rfl|(simp;done)|(simp [*];done),by repeat (first|exact Drawn0.refl _|apply Drawn0.step)⟩
mutual
def placketref01_word.j0:Nat→ByteArray→Int→Bool→Option (Bool)
 | 0,_,_,_=>none
 | k+1,x0,x3,x12=>if x12=true then (placketref01_word.j1 k x0 1) else (placketref01_word.j1 k x0 x3)
def placketref01_word.j1:Nat→ByteArray→Int→Option (Bool)
 | 0,_,_=>none
 | k+1,x0,x3=>if x3=(x0.size:Int) then (placketref01_word.j2 k x0 x3 true) else (if 0≤x3 then (if x3 < (x0.size:Int) then (if (bt x0 x3)=48 then (placketref01_word.j2 k x0 x3 (decide ((x0.size:Int) > 1))) else (placketref01_word.j2 k x0 x3 false)) else (none)) else (none))
def placketref01_word.j2:Nat→ByteArray→Int→Bool→Option (Bool)
 | 0,_,_,_=>none
 | k+1,x0,x3,x27=>if x27=true then (some false) else (placketref01_word.l0 k x0 x3)
def placketref01_word.l0:Nat→ByteArray→Int→Option (Bool)
 | 0,_,_=>none
 | k+1,x0,x4=>if x4 < (x0.size:Int) then (if 0≤x4 then (if (bt x0 x4) < 48 then (some false) else (if (bt x0 x4) > 57 then (some false) else (placketref01_word.l0 k x0 (wrap64 (x4+1))))) else (none)) else (some true)
end
def placketref01_word.f (k:Nat) (a0:ByteArray):Option (Bool):=if (a0.size:Int) > 0 then (if 0 < (a0.size:Int) then (placketref01_word.j0 k a0 0 ((bt a0 0) == 45)) else (none)) else (placketref01_word.j0 k a0 0 false)
set_option maxHeartbeats 8000000 in
set_option maxRecDepth 100000 in
theorem placketref01_word.calls (k:Nat) (a0:ByteArray) (r:Bool) (w:World) (h:placketref01_word.f k a0=some r) :
  Calls Tryd.prog 94 #[.string a0] w fun e w'=>e = .returned (.bool r)∧Drawn0 w w':=by
 have H:(if (a0.size:Int) > 0 then (if 0 < (a0.size:Int) then (placketref01_word.j0 k a0 0 ((bt a0 0) == 45)) else (none)) else (placketref01_word.j0 k a0 0 false))=some r:=h;clear h;have HC2:=Aside0.mk H;clear H;(go_enter Tryd.func94,Tryd.ntmps94);(go_upto_region 2 with (fail));go_cut [12] (fun v12 wc=>∃ (kq:Nat) (x12_1:Bool),v12 = .bool x12_1∧Aside0 (placketref01_word.j0 kq a0 0 x12_1=some r)∧Aside0 (kq≤k)∧Drawn0 w wc)
 case first=>
  have H:=HC2.out;clear HC2;by_cases c3:(a0.size:Int) > 0
  ·rw [if_pos c3] at H;have c3b0:decide (0 < (a0.size:Int))=true:=decide_eq_true c3;have c3b1:decide (0 < a0.size)=true:=decide_eq_true (by omega);clear c3
   (first|rw [c3b0]|(simp only [i64_w,i32_w];rw [c3b0])|skip)
   by_cases c4:0 < (a0.size:Int)
   ·rw [if_pos c4] at H;have c4b0:decide (0 < (a0.size:Int))=true:=decide_eq_true c4;have c4b1:decide (0 < a0.size)=true:=decide_eq_true (by omega);clear c4;have H':=Aside0.mk H;clear H;have p5:0≤(0:Int):=(by omega);have q5:0 < a0.size:=(by have:(0:Int) < (a0.size:Int):=of_decide_eq_true (by assumption);omega);have hx5:∀ h:0 < a0.size,((a0[0]'h).toNat:Int)=bt a0 0:=bt_at a0 0;clear p5;have qi5:(0 < (a0.size:Int))=True:=eq_true (of_decide_eq_true (by assumption));replace q5:=eq_true q5;go_wp2;go_meet
    case rel=>exact ⟨_,(((bt a0 0) == 45)),(by first|rfl|(simp;done)|(simp [*];done)),H',⟨by first|omega|exact Nat.le_refl _⟩,by repeat (first|exact Drawn0.refl _|apply Drawn0.step)⟩
   ·rw [if_neg c4] at H;exact absurd H (by simp)
  ·rw [if_neg c3] at H;have c3b0:decide (0 < (a0.size:Int))=false:=decide_eq_false c3;have c3b1:decide (0 < a0.size)=false:=decide_eq_false (by omega);clear c3
   (first|rw [c3b0]|(simp only [i64_w,i32_w];rw [c3b0])|skip)
   have H':=Aside0.mk H;clear H;go_wp2;go_meet
   case rel=>exact ⟨_,(false),(by first|rfl|(simp;done)|(simp [*];done)),H',⟨by first|omega|exact Nat.le_refl _⟩,by repeat (first|exact Drawn0.refl _|apply Drawn0.step)⟩
 case rest=>
  clear HC2;(try clear p2);(try clear c3);(try clear c3b0);(try clear c3b1);(try clear c4);(try clear c4b0);(try clear c4b1);(try clear p5);(try clear q5);(try clear hx5);(try clear qi5);(try clear p5);(try clear q5);obtain ⟨kq,x12_1,rfl,HA,HJ1,⟨mc1,rfl⟩⟩:=hcut;cases kq with
  | zero=>exact absurd HA.out (by simp [placketref01_word.j0])
  | succ kj1=>
   have H:=HA.out;clear HA;simp only [placketref01_word.j0] at H;have HC6:=Aside0.mk H;clear H;go_upto_if 12 with (fail)
   go_cut [3] (fun v3 wc=>∃ (kq:Nat) (x3_5:Int),v3 = .int .i64 x3_5∧Aside0 (placketref01_word.j1 kq a0 x3_5=some r)∧Aside0 (kq≤kj1)∧Drawn0 w wc)
   case first=>
    have H:=HC6.out;clear HC6;by_cases c7:x12_1=true
    ·subst c7;(have H1:(placketref01_word.j1 kj1 a0 1)=some r:=by rw [if_pos rfl] at H;exact H);clear H;have H:=H1;clear H1;have H':=Aside0.mk H;clear H;go_wp2;go_meet
     case rel=>exact ⟨_,(1),(by first|rfl|(simp;done)|(simp [*];done)),H',⟨by have:=HJ1.out;first|omega|exact Nat.le_refl _⟩,by repeat (first|exact Drawn0.refl _|apply Drawn0.step)⟩
    ·replace c7:=Bool.eq_false_iff.mpr c7;subst c7;(have H1:(placketref01_word.j1 kj1 a0 0)=some r:=by rw [if_neg (show ¬ (false=true) by decide)] at H;exact H);clear H;have H:=H1;clear H1;have H':=Aside0.mk H;clear H;go_wp2;go_meet
     case rel=>exact ⟨_,(0),(by first|rfl|(simp;done)|(simp [*];done)),H',⟨by have:=HJ1.out;first|omega|exact Nat.le_refl _⟩,by repeat (first|exact Drawn0.refl _|apply Drawn0.step)⟩
   case rest=>
    clear HC6;(try clear c1);(try clear p2);(try clear c3);(try clear c3b0);(try clear c3b1);(try clear c4);(try clear c4b0);(try clear c4b1);(try clear p5);(try clear q5);(try clear hx5);(try clear qi5);(try clear c7);(try clear p2);(try clear p5);(try clear q5);obtain ⟨kq,x3_5,rfl,HA,HJ5,⟨mc5,rfl⟩⟩:=hcut;cases kq with
    | zero=>exact absurd HA.out (by simp [placketref01_word.j1])
    | succ kj5=>
     have H:=HA.out;clear HA;simp only [placketref01_word.j1] at H;have HC8:=Aside0.mk H;clear H;(go_upto_region 4 with (fail));go_cut [27] (fun v27 wc=>∃ (kq:Nat) (x27_7:Bool),v27 = .bool x27_7∧Aside0 (placketref01_word.j2 kq a0 x3_5 x27_7=some r)∧Aside0 (kq≤kj5)∧Drawn0 w wc)
     case first=>
      have H:=HC8.out;clear HC8;by_cases c9:x3_5=(a0.size:Int)
      ·rw [if_pos c9] at H;have c9b0:(x3_5 == (a0.size:Int))=true:=beq_iff_eq.mpr c9;have c9b1:(x3_5 != (a0.size:Int))=false:=bne_eq_false_iff_eq.mpr c9;clear c9
       (first|rw [c9b0]|(simp only [i64_w,i32_w];rw [c9b0])|skip)
       have H':=Aside0.mk H;clear H;go_wp2;go_meet
       case rel=>exact ⟨_,(true),(by first|rfl|(simp;done)|(simp [*];done)),H',⟨by have:=HJ1.out;have:=HJ5.out;first|omega|exact Nat.le_refl _⟩,by repeat (first|exact Drawn0.refl _|apply Drawn0.step)⟩
      ·rw [if_neg c9] at H;have c9b0:(x3_5 == (a0.size:Int))=false:=beq_eq_false_iff_ne.mpr c9;have c9b1:(x3_5 != (a0.size:Int))=true:=bne_iff_ne.mpr c9
       (first|rw [c9b0]|(simp only [i64_w,i32_w];rw [c9b0])|skip)
       by_cases c10:0≤x3_5
       ·rw [if_pos c10] at H;have c10b0:decide (0≤x3_5)=true:=decide_eq_true c10;clear c10;by_cases c11:x3_5 < (a0.size:Int)
        ·rw [if_pos c11] at H;have c11b0:decide (x3_5 < (a0.size:Int))=true:=decide_eq_true c11;clear c11;by_cases c13:(bt a0 x3_5)=48
         ·rw [if_pos c13] at H;have c13b0:((bt a0 x3_5) == 48)=true:=beq_iff_eq.mpr c13;have c13b1:((bt a0 x3_5) != 48)=false:=bne_eq_false_iff_eq.mpr c13;clear c13;have H':=Aside0.mk H;clear H;have p12:0≤(x3_5:Int):=of_decide_eq_true (by assumption);have q12:x3_5 < (a0.size:Int):=of_decide_eq_true (by assumption);have hx12:=bt_at a0 x3_5;replace p12:=eq_true p12;replace q12:=eq_true q12;go_wp2;go_meet
          case rel=>exact ⟨_,(decide ((a0.size:Int) > 1)),(by first|rfl|(simp;done)|(simp [*];done)),H',⟨by have:=HJ1.out;have:=HJ5.out;first|omega|exact Nat.le_refl _⟩,by repeat (first|exact Drawn0.refl _|apply Drawn0.step)⟩
         ·rw [if_neg c13] at H;have c13b0:((bt a0 x3_5) == 48)=false:=beq_eq_false_iff_ne.mpr c13;have c13b1:((bt a0 x3_5) != 48)=true:=bne_iff_ne.mpr c13;have H':=Aside0.mk H;clear H;have p12:0≤(x3_5:Int):=of_decide_eq_true (by assumption);have q12:x3_5 < (a0.size:Int):=of_decide_eq_true (by assumption);have hx12:=bt_at a0 x3_5;replace p12:=eq_true p12;replace q12:=eq_true q12;go_wp2;go_meet
          case rel=>exact ⟨_,(false),(by first|rfl|(simp;done)|(simp [*];done)),H',⟨by have:=HJ1.out;have:=HJ5.out;first|omega|exact Nat.le_refl _⟩,by repeat (first|exact Drawn0.refl _|apply Drawn0.step)⟩
        ·rw [if_neg c11] at H;exact absurd H (by simp)
       ·rw [if_neg c10] at H;exact absurd H (by simp)
     case rest=>
      clear HC8;(try clear c1);(try clear p1);(try clear q1);(try clear hx1);(try clear p2);(try clear c3);(try clear c3b0);(try clear c3b1);(try clear c4);(try clear c4b0);(try clear c4b1);(try clear c5);(try clear p5);(try clear q5);(try clear hx5);(try clear qi5);(try clear c7);(try clear c9);(try clear c9b0);(try clear c9b1);(try clear c10);(try clear c10b0);(try clear c11);(try clear c11b0);(try clear p12);(try clear q12);(try clear hx12);(try clear c13);(try clear c13b0);(try clear c13b1);(try clear p12);(try clear p2);(try clear p5);(try clear q12);(try clear q5);obtain ⟨kq,x27_7,rfl,HA,HJ7,⟨mc7,rfl⟩⟩:=hcut;cases kq with
      | zero=>exact absurd HA.out (by simp [placketref01_word.j2])
      | succ kj7=>
       have H:=HA.out;clear HA;simp only [placketref01_word.j2] at H;by_cases c14:x27_7=true
       ·subst c14;(have H1:(some false)=some r:=by rw [if_pos rfl] at H;exact H);clear H;have H:=H1;clear H1;obtain rfl:=Option.some.inj H;go_wp2;go_ret;exact ⟨by first|rfl|(simp;done)|(simp [*];done),by repeat (first|exact Drawn0.refl _|apply Drawn0.step)⟩
       ·replace c14:=Bool.eq_false_iff.mpr c14;subst c14;(have H1:(placketref01_word.l0 kj7 a0 x3_5)=some r:=by rw [if_neg (show ¬ (false=true) by decide)] at H;exact H);clear H;have H:=H1;clear H1;have H':=Aside0.mk H;clear H;go_wp2;go_loopg [4] kj7 (fun kq v4 w'=>∃ (x4_4:Int),v4 = .int .i64 x4_4∧Aside0 (placketref01_word.l0 kq a0 x4_4=some r)∧Aside0 (kq≤kj7)∧Drawn0 w w')
        case atStart=>exact ⟨(x3_5),(by first|rfl|(simp;done)|(simp [*];done)),H',⟨Nat.le_refl _⟩,by repeat (first|exact Drawn0.refl _|apply Drawn0.step)⟩
        case round=>
         clear H';(try clear c1);(try clear p1);(try clear q1);(try clear hx1);(try clear p2);(try clear c3);(try clear c3b0);(try clear c3b1);(try clear c4);(try clear c4b0);(try clear c4b1);(try clear c5);(try clear p5);(try clear q5);(try clear hx5);(try clear qi5);(try clear c7);(try clear c9);(try clear c9b0);(try clear c9b1);(try clear c10);(try clear c10b0);(try clear c11);(try clear c11b0);(try clear p12);(try clear q12);(try clear hx12);(try clear c13);(try clear c13b0);(try clear c13b1);(try clear c14);(try clear p1);(try clear p12);(try clear p2);(try clear p5);(try clear q1);(try clear q12);(try clear q5);obtain ⟨x4_4,rfl,HA,HK4,⟨m4,rfl⟩⟩:=hrel;cases gk with
         | zero=>exact absurd HA.out (by simp [placketref01_word.l0])
         | succ k4=>
          have H:=HA.out;clear HA;simp only [placketref01_word.l0] at H;by_cases c15:x4_4 < (a0.size:Int)
          ·rw [if_pos c15] at H;have c15b0:decide (x4_4 < (a0.size:Int))=true:=decide_eq_true c15;clear c15;by_cases c16:0≤x4_4
           ·rw [if_pos c16] at H;have c16b0:decide (0≤x4_4)=true:=decide_eq_true c16;clear c16;by_cases c18:(bt a0 x4_4) < 48
            ·rw [if_pos c18] at H;have c18b0:decide ((bt a0 x4_4) < 48)=true:=decide_eq_true c18;clear c18;obtain rfl:=Option.some.inj H;have p17:0≤(x4_4:Int):=of_decide_eq_true (by assumption);have q17:x4_4 < (a0.size:Int):=of_decide_eq_true (by assumption);have hx17:=bt_at a0 x4_4;replace p17:=eq_true p17;replace q17:=eq_true q17;go_wp2;go_ret;exact ⟨by first|rfl|(simp;done)|(simp [*];done),by repeat (first|exact Drawn0.refl _|apply Drawn0.step)⟩
            ·rw [if_neg c18] at H;have c18b0:decide ((bt a0 x4_4) < 48)=false:=decide_eq_false c18;clear c18;by_cases c20:(bt a0 x4_4) > 57
             ·rw [if_pos c20] at H;have c20b0:decide (57 < (bt a0 x4_4))=true:=decide_eq_true c20;clear c20;obtain rfl:=Option.some.inj H;have p17:0≤(x4_4:Int):=of_decide_eq_true (by assumption);have q17:x4_4 < (a0.size:Int):=of_decide_eq_true (by assumption);have hx17:=bt_at a0 x4_4;replace p17:=eq_true p17;replace q17:=eq_true q17;have p19:0≤(x4_4:Int):=of_decide_eq_true (by assumption);have q19:x4_4 < (a0.size:Int):=of_decide_eq_true (by assumption);have hx19:=bt_at a0 x4_4;replace p19:=eq_true p19;replace q19:=eq_true q19;go_wp2;go_ret;exact ⟨by first|rfl|(simp;done)|(simp [*];done),by repeat (first|exact Drawn0.refl _|apply Drawn0.step)⟩
             ·rw [if_neg c20] at H;have c20b0:decide (57 < (bt a0 x4_4))=false:=decide_eq_false c20;clear c20;have H':=Aside0.mk H;clear H;have p17:0≤(x4_4:Int):=of_decide_eq_true (by assumption);have q17:x4_4 < (a0.size:Int):=of_decide_eq_true (by assumption);have hx17:=bt_at a0 x4_4;replace p17:=eq_true p17;replace q17:=eq_true q17;have p19:0≤(x4_4:Int):=of_decide_eq_true (by assumption);have q19:x4_4 < (a0.size:Int):=of_decide_eq_true (by assumption);have hx19:=bt_at a0 x4_4;replace p19:=eq_true p19;replace q19:=eq_true q19;go_wp2;go_roundg k4
              case measure=>have:=HJ1.out;have:=HJ5.out;have:=HJ7.out;have:=HK4.out;omega
              case rel=>exact ⟨(wrap64 (x4_4+1)),(by first|rfl|(simp;done)|(simp [*];done)),H',⟨by have:=HJ1.out;have:=HJ5.out;have:=HJ7.out;have:=HK4.out;omega⟩,by repeat (first|exact Drawn0.refl _|apply Drawn0.step)⟩
           ·rw [if_neg c16] at H;exact absurd H (by simp)
          ·rw [if_neg c15] at H;have c15b0:decide (x4_4 < (a0.size:Int))=false:=decide_eq_false c15;clear c15;obtain rfl:=Option.some.inj H;go_wp2;go_ret;exact ⟨by first|rfl|(simp;done)|(simp [*];done),by repeat (first|exact Drawn0.refl _|apply Drawn0.step)⟩
def placketref01_Parse.l0:Nat→ByteArray→Int→Int→Int→Option (Int × Int)
 | 0,_,_,_,_=>none
 | k+1,x0,x4,x11,x12=>if x12 < x11 then (if 0≤x12 then (if x12 < (x0.size:Int) then (if (bt x0 x12)=45 then (placketref01_Parse.l0 k x0 x4 x11 (wrap64 (x12+1))) else (if x4 < (Int.tdiv ((-9223372036854775808)+(((bt x0 x12) - 48) % 256)) 10) then (some (0,4)) else (placketref01_Parse.l0 k x0 (wrap64 ((wrap64 (10 * x4)) - (((bt x0 x12) - 48) % 256))) x11 (wrap64 (x12+1))))) else (none)) else (none)) else (if 0 < (x0.size:Int) then (if (bt x0 0)=45 then (some (x4,0)) else (if x4=(-9223372036854775808) then (some (0,4)) else (some (wrap64 (-x4),0)))) else (none))
def placketref01_Parse.f (k:Nat) (a0:ByteArray):Option (Int × Int):=(placketref01_word.f k a0).bind fun t152=>(if t152=true then (placketref01_Parse.l0 k a0 0 (a0.size:Int) 0) else (some (0,2)))
set_option maxHeartbeats 8000000 in
set_option maxRecDepth 100000 in
theorem placketref01_Parse.calls (k:Nat) (a0:ByteArray) (r1:Int) (r2:Int) (w:World) (h:placketref01_Parse.f k a0=some (r1,r2)) :
  Calls Tryd.prog 83 #[.string a0] w fun e w'=>e = .returned (.tuple #[.int .i64 r1,.int .i64 r2])∧Drawn0 w w':=by
 have H:((placketref01_word.f k a0).bind fun t152=>(if t152=true then (placketref01_Parse.l0 k a0 0 (a0.size:Int) 0) else (some (0,2))))=some (r1,r2):=h;clear h;replace H:=Option.bind_eq_some_iff.mp H;obtain ⟨t152,A20,H⟩:=H;replace H:(if t152=true then (placketref01_Parse.l0 k a0 0 (a0.size:Int) 0) else (some (0,2)))=some (r1,r2):=H;have A2:=Aside0.mk A20;clear A20;by_cases c3:t152=true
 ·subst c3;(have H1:(placketref01_Parse.l0 k a0 0 (a0.size:Int) 0)=some (r1,r2):=by rw [if_pos rfl] at H;exact H);clear H;have H:=H1;clear H1;have H':=Aside0.mk H;clear H;(go_enter Tryd.func83,Tryd.ntmps83);go_wp2_with (first|((with_reducible refine gate_callee (f:=94) rfl ?_);refine goesL_ (some 8) rfl rfl Tryd.func94 (by kernel_rfl) rfl #[.string a0] rfl (by (try simp only [List.map_toArray,List.map_cons,List.map_nil]);first|done|rfl|(simp only [List.length_drop,List.length_take];rfl)) ?_;(with_reducible refine (placketref01_word.calls k a0 true _ A2.out).mono ?_);rintro e w' ⟨rfl,⟨nd,rfl⟩⟩;refine ⟨_,rfl,?_⟩));go_loopg [4,12] k (fun kq v4 v12 w'=>∃ (x4_1:Int) (x12_1:Int),v4 = .int .i64 x4_1∧v12 = .int .i64 x12_1∧Aside0 (placketref01_Parse.l0 kq a0 x4_1 (a0.size:Int) x12_1=some (r1,r2))∧Aside0 (kq≤k)∧Drawn0 w w')
  case atStart=>exact ⟨(0),(0),(by first|rfl|(simp;done)|(simp [*];done)),(by first|rfl|(simp;done)|(simp [*];done)),H',⟨Nat.le_refl _⟩,by repeat (first|exact Drawn0.refl _|apply Drawn0.step)⟩
  case round=>
   clear H';(try clear p2);(try clear c3);obtain ⟨x4_1,x12_1,rfl,rfl,HA,HK1,⟨m1,rfl⟩⟩:=hrel;cases gk with
   | zero=>exact absurd HA.out (by simp [placketref01_Parse.l0])
   | succ k1=>
    have H:=HA.out;clear HA;simp only [placketref01_Parse.l0] at H;by_cases c4:x12_1 < (a0.size:Int)
    ·rw [if_pos c4] at H;have c4b0:decide (x12_1 < (a0.size:Int))=true:=decide_eq_true c4;clear c4;by_cases c5:0≤x12_1
     ·rw [if_pos c5] at H;have c5b0:decide (0≤x12_1)=true:=decide_eq_true c5;clear c5;by_cases c6:x12_1 < (a0.size:Int)
      ·rw [if_pos c6] at H;have c6b0:decide (x12_1 < (a0.size:Int))=true:=decide_eq_true c6;clear c6;by_cases c8:(bt a0 x12_1)=45
       ·rw [if_pos c8] at H;have c8b0:((bt a0 x12_1) == 45)=true:=beq_iff_eq.mpr c8;have c8b1:((bt a0 x12_1) != 45)=false:=bne_eq_false_iff_eq.mpr c8;clear c8;have H':=Aside0.mk H;clear H;have p7:0≤(x12_1:Int):=of_decide_eq_true (by assumption);have q7:x12_1 < (a0.size:Int):=of_decide_eq_true (by assumption);have hx7:=bt_at a0 x12_1;replace p7:=eq_true p7;replace q7:=eq_true q7;go_wp2;go_roundg k1
        case measure=>have:=HK1.out;omega
        case rel=>exact ⟨(x4_1),(wrap64 (x12_1+1)),(by first|rfl|(simp;done)|(simp [*];done)),(by first|rfl|(simp;done)|(simp [*];done)),H',⟨by have:=HK1.out;omega⟩,by repeat (first|exact Drawn0.refl _|apply Drawn0.step)⟩
       ·rw [if_neg c8] at H;have c8b0:((bt a0 x12_1) == 45)=false:=beq_eq_false_iff_ne.mpr c8;have c8b1:((bt a0 x12_1) != 45)=true:=bne_iff_ne.mpr c8;by_cases c10:x4_1 < (Int.tdiv ((-9223372036854775808)+(((bt a0 x12_1) - 48) % 256)) 10)
        ·rw [if_pos c10] at H;have c10b0:decide (x4_1 < (Int.tdiv ((-9223372036854775808)+(((bt a0 x12_1) - 48) % 256)) 10))=true:=decide_eq_true c10;clear c10;simp only [Option.some.injEq,Prod.mk.injEq] at H;obtain ⟨rfl,rfl⟩:=H;have p7:0≤(x12_1:Int):=of_decide_eq_true (by assumption);have q7:x12_1 < (a0.size:Int):=of_decide_eq_true (by assumption);have hx7:=bt_at a0 x12_1;replace p7:=eq_true p7;replace q7:=eq_true q7;have p9:0≤(x12_1:Int):=of_decide_eq_true (by assumption);have q9:x12_1 < (a0.size:Int):=of_decide_eq_true (by assumption);have hx9:=bt_at a0 x12_1;replace p9:=eq_true p9;replace q9:=eq_true q9;go_wp2;go_ret2;exact ⟨by first|rfl|(simp;done)|(simp [*];done),by repeat (first|exact Drawn0.refl _|apply Drawn0.step)⟩
        ·rw [if_neg c10] at H;have c10b0:decide (x4_1 < (Int.tdiv ((-9223372036854775808)+(((bt a0 x12_1) - 48) % 256)) 10))=false:=decide_eq_false c10;clear c10;have H':=Aside0.mk H;clear H;have p7:0≤(x12_1:Int):=of_decide_eq_true (by assumption);have q7:x12_1 < (a0.size:Int):=of_decide_eq_true (by assumption);have hx7:=bt_at a0 x12_1;replace p7:=eq_true p7;replace q7:=eq_true q7;have p9:0≤(x12_1:Int):=of_decide_eq_true (by assumption);have q9:x12_1 < (a0.size:Int):=of_decide_eq_true (by assumption);have hx9:=bt_at a0 x12_1;replace p9:=eq_true p9;replace q9:=eq_true q9;go_wp2;go_roundg k1
         case measure=>have:=HK1.out;omega
         case rel=>exact ⟨(wrap64 ((wrap64 (10 * x4_1)) - (((bt a0 x12_1) - 48) % 256))),(wrap64 (x12_1+1)),(by first|rfl|(simp;done)|(simp [*];done)),(by first|rfl|(simp;done)|(simp [*];done)),H',⟨by have:=HK1.out;omega⟩,by repeat (first|exact Drawn0.refl _|apply Drawn0.step)⟩
      ·rw [if_neg c6] at H;exact absurd H (by simp)
     ·rw [if_neg c5] at H;exact absurd H (by simp)
    ·rw [if_neg c4] at H;have c4b0:decide (x12_1 < (a0.size:Int))=false:=decide_eq_false c4;clear c4;by_cases c11:0 < (a0.size:Int)
     ·rw [if_pos c11] at H;have c11b0:decide (0 < (a0.size:Int))=true:=decide_eq_true c11;have c11b1:decide (0 < a0.size)=true:=decide_eq_true (by omega);clear c11;by_cases c13:(bt a0 0)=45
      ·rw [if_pos c13] at H;have c13b0:((bt a0 0) == 45)=true:=beq_iff_eq.mpr c13;have c13b1:((bt a0 0) != 45)=false:=bne_eq_false_iff_eq.mpr c13;clear c13;simp only [Option.some.injEq,Prod.mk.injEq] at H;obtain ⟨rfl,rfl⟩:=H;have p12:0≤(0:Int):=(by omega);have q12:0 < a0.size:=(by have:(0:Int) < (a0.size:Int):=of_decide_eq_true (by assumption);omega);have hx12:∀ h:0 < a0.size,((a0[0]'h).toNat:Int)=bt a0 0:=bt_at a0 0;clear p12;have qi12:(0 < (a0.size:Int))=True:=eq_true (of_decide_eq_true (by assumption));replace q12:=eq_true q12;go_wp2;go_ret2;exact ⟨by first|rfl|(simp;done)|(simp [*];done),by repeat (first|exact Drawn0.refl _|apply Drawn0.step)⟩
      ·rw [if_neg c13] at H;have c13b0:((bt a0 0) == 45)=false:=beq_eq_false_iff_ne.mpr c13;have c13b1:((bt a0 0) != 45)=true:=bne_iff_ne.mpr c13;by_cases c14:x4_1=(-9223372036854775808)
       ·rw [if_pos c14] at H;have c14b0:(x4_1 == (-9223372036854775808))=true:=beq_iff_eq.mpr c14;have c14b1:(x4_1 != (-9223372036854775808))=false:=bne_eq_false_iff_eq.mpr c14;clear c14;simp only [Option.some.injEq,Prod.mk.injEq] at H;obtain ⟨rfl,rfl⟩:=H;have p12:0≤(0:Int):=(by omega);have q12:0 < a0.size:=(by have:(0:Int) < (a0.size:Int):=of_decide_eq_true (by assumption);omega);have hx12:∀ h:0 < a0.size,((a0[0]'h).toNat:Int)=bt a0 0:=bt_at a0 0;clear p12;have qi12:(0 < (a0.size:Int))=True:=eq_true (of_decide_eq_true (by assumption));replace q12:=eq_true q12;go_wp2;go_ret2;exact ⟨by first|rfl|(simp;done)|(simp [*];done),by repeat (first|exact Drawn0.refl _|apply Drawn0.step)⟩
       ·rw [if_neg c14] at H;have c14b0:(x4_1 == (-9223372036854775808))=false:=beq_eq_false_iff_ne.mpr c14;have c14b1:(x4_1 != (-9223372036854775808))=true:=bne_iff_ne.mpr c14;simp only [Option.some.injEq,Prod.mk.injEq] at H;obtain ⟨rfl,rfl⟩:=H;have p12:0≤(0:Int):=(by omega);have q12:0 < a0.size:=(by have:(0:Int) < (a0.size:Int):=of_decide_eq_true (by assumption);omega);have hx12:∀ h:0 < a0.size,((a0[0]'h).toNat:Int)=bt a0 0:=bt_at a0 0;clear p12;have qi12:(0 < (a0.size:Int))=True:=eq_true (of_decide_eq_true (by assumption));replace q12:=eq_true q12;go_wp2;go_ret2;exact ⟨by first|rfl|(simp;done)|(simp [*];done),by repeat (first|exact Drawn0.refl _|apply Drawn0.step)⟩
     ·rw [if_neg c11] at H;exact absurd H (by simp)
 ·replace c3:=Bool.eq_false_iff.mpr c3;subst c3;(have H1:(some (0,2))=some (r1,r2):=by rw [if_neg (show ¬ (false=true) by decide)] at H;exact H);clear H;have H:=H1;clear H1;simp only [Option.some.injEq,Prod.mk.injEq] at H;obtain ⟨rfl,rfl⟩:=H;(go_enter Tryd.func83,Tryd.ntmps83);go_wp2_with (first|((with_reducible refine gate_callee (f:=94) rfl ?_);refine goesL_ (some 8) rfl rfl Tryd.func94 (by kernel_rfl) rfl #[.string a0] rfl (by (try simp only [List.map_toArray,List.map_cons,List.map_nil]);first|done|rfl|(simp only [List.length_drop,List.length_take];rfl)) ?_;(with_reducible refine (placketref01_word.calls k a0 false _ A2.out).mono ?_);rintro e w' ⟨rfl,⟨nd,rfl⟩⟩;refine ⟨_,rfl,?_⟩));go_ret2;exact ⟨by first|rfl|(simp;done)|(simp [*];done),by repeat (first|exact Drawn0.refl _|apply Drawn0.step)⟩
end Go.Proofs.YtkbjblhompkdkaaDoor.PA

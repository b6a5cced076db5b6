/- YtkbjblhompkdkaaDoorRouteChecksQ10: PBx4, RouteLive, RouteRound, RoutePrint -/
import Derived.Test.YtkbjblhompkdkaaDoorRouteChecksQ6
import Derived.Test.YtkbjblhompkdkaaDoorRouteChecksQ9
import Derived.Test.YtkbjblhompkdkaaDoorRouteChecksQ7
import Derived.Test.YtkbjblhompkdkaaDoorRouteChecksQ8
namespace Go.Proofs.YtkbjblhompkdkaaDoor.PB
open Go.Proofs.YtkbjblhompkdkaaDoor.PA
open Go.RowKit Go.Proofs.YtkbjblhompkdkaaDoorW.PrintWords Go.Proofs.YtkbjblhompkdkaaDoorW.PrintLast
set_option linter.unusedVariables false
set_option linter.unusedSimpArgs false
attribute [local go_sem high] eqA83
def route_Print.l0:Nat→ByteArray→List (S83)→Int→Int→Option (ByteArray)
 | 0,_,_,_,_=>none
 | k+1,x3,x6,x7,x8=>if x8 < x7 then (if 0≤x8 then (if x8 < (x6.length:Int) then (if ((rd_T83 x6 x8).f0)=0 then ((quote_Name.f k ((rd_T83 x6 x8).f4)).bind fun t113=>(if t113=true then (if 1+((rd_T83 x6 x8).f4).size≤9223372036854775807 then (if x3.size+((⟨#[46]⟩:ByteArray)++((rd_T83 x6 x8).f4)).size≤9223372036854775807 then (route_Print.l0 k (x3++((⟨#[46]⟩:ByteArray)++((rd_T83 x6 x8).f4))) x6 x7 (wrap64 (x8+1))) else (none)) else (none)) else ((quote_Quote.f k ((rd_T83 x6 x8).f4)).bind fun t114=>(if 1+t114.size≤9223372036854775807 then (if ((⟨#[91]⟩:ByteArray)++t114).size+1≤9223372036854775807 then (if x3.size+(((⟨#[91]⟩:ByteArray)++t114)++(⟨#[93]⟩:ByteArray)).size≤9223372036854775807 then (route_Print.l0 k (x3++(((⟨#[91]⟩:ByteArray)++t114)++(⟨#[93]⟩:ByteArray))) x6 x7 (wrap64 (x8+1))) else (none)) else (none)) else (none))))) else (if ((rd_T83 x6 x8).f0)=1 then ((num_Digits.f ((rd_T83 x6 x8).f1)).bind fun t115=>(if 1+t115.size≤9223372036854775807 then (if ((⟨#[91]⟩:ByteArray)++t115).size+1≤9223372036854775807 then (if x3.size+(((⟨#[91]⟩:ByteArray)++t115)++(⟨#[93]⟩:ByteArray)).size≤9223372036854775807 then (route_Print.l0 k (x3++(((⟨#[91]⟩:ByteArray)++t115)++(⟨#[93]⟩:ByteArray))) x6 x7 (wrap64 (x8+1))) else (none)) else (none)) else (none))) else (if ((rd_T83 x6 x8).f0)=2 then ((route_end.f ((rd_T83 x6 x8).f2) 0).bind fun t116=>(if 1+t116.size≤9223372036854775807 then (if ((⟨#[91]⟩:ByteArray)++t116).size+1≤9223372036854775807 then ((route_end.f ((rd_T83 x6 x8).f3) 9223372036854775807).bind fun t117=>(if (((⟨#[91]⟩:ByteArray)++t116)++(⟨#[58]⟩:ByteArray)).size+t117.size≤9223372036854775807 then (if ((((⟨#[91]⟩:ByteArray)++t116)++(⟨#[58]⟩:ByteArray))++t117).size+1≤9223372036854775807 then (if x3.size+(((((⟨#[91]⟩:ByteArray)++t116)++(⟨#[58]⟩:ByteArray))++t117)++(⟨#[93]⟩:ByteArray)).size≤9223372036854775807 then (route_Print.l0 k (x3++(((((⟨#[91]⟩:ByteArray)++t116)++(⟨#[58]⟩:ByteArray))++t117)++(⟨#[93]⟩:ByteArray))) x6 x7 (wrap64 (x8+1))) else (none)) else (none)) else (none))) else (none)) else (none))) else (if ((rd_T83 x6 x8).f0)=3 then (if x3.size+3≤9223372036854775807 then (route_Print.l0 k (x3++(⟨#[91,42,93]⟩:ByteArray)) x6 x7 (wrap64 (x8+1))) else (none)) else (if ((rd_T83 x6 x8).f0)=4 then (if x3.size+2≤9223372036854775807 then (route_Print.l0 k (x3++(⟨#[46,46]⟩:ByteArray)) x6 x7 (wrap64 (x8+1))) else (none)) else (if ((rd_T83 x6 x8).f0)=5 then (if 3+((rd_T83 x6 x8).f4).size≤9223372036854775807 then (if ((⟨#[91,63,40]⟩:ByteArray)++((rd_T83 x6 x8).f4)).size+2≤9223372036854775807 then (if x3.size+(((⟨#[91,63,40]⟩:ByteArray)++((rd_T83 x6 x8).f4))++(⟨#[41,93]⟩:ByteArray)).size≤9223372036854775807 then (route_Print.l0 k (x3++(((⟨#[91,63,40]⟩:ByteArray)++((rd_T83 x6 x8).f4))++(⟨#[41,93]⟩:ByteArray))) x6 x7 (wrap64 (x8+1))) else (none)) else (none)) else (none)) else (route_Print.l0 k x3 x6 x7 (wrap64 (x8+1))))))))) else (none)) else (none)) else (some x3)
def route_Print.f (k:Nat) (l0:List (S83)):Option (ByteArray):=route_Print.l0 k (⟨#[36]⟩:ByteArray) l0 (l0.length:Int) 0
def route_Print.T13:Bool × List (List Nat × List Nat):=(true,[([],[]),([],[]),([1],[1]),([2],[2]),([3],[3]),([4],[4]),([],[]),([6],[6]),([7,3],[7]),([5,8],[5,8]),([9],[9]),([0,10],[0,10]),([11,8,0,1,2,3,4,5,6,7,8,9,10,11],[0,11])])
def route_Print.B13:List Nat:=[0,0,2,6,14,30,0,64,206,510,1022,2047,4095]
theorem route_Print.tab13:rtab .any (opsOf Tryd.f36 13)=route_Print.T13:=by kernel_rfl
theorem route_Print.bits13:waitsOk route_Print.T13.2 route_Print.B13=true:=by kernel_rfl
set_option maxHeartbeats 8000000 in
set_option maxRecDepth 100000 in
theorem route_Print.calls (k:Nat) (A0:Option Addr) (c0:Nat) (l0:List (S83)) (r:ByteArray) (w:World) (hr0:Kd.C k83 w A0 l0.length l0) (hc0:l0.length≤c0) (h:route_Print.f k l0=some r) :
  Calls Tryd.prog 36 #[.slice A0 l0.length c0] w fun e w'=>e = .returned (.string r)∧Below w.heap.size w w':=by
 have hu83:=Tryd.underlying83;have HR0:=Aside0.mk hr0;have HC0:=Aside0.mk hc0;clear hr0 hc0;have HB:=Aside0.mk (Below.refl w.heap.size w);have H:(route_Print.l0 k (⟨#[36]⟩:ByteArray) l0 (l0.length:Int) 0)=some r:=h;clear h;have H':=Aside0.mk H;clear H;(go_enter Tryd.func36,Tryd.ntmps36);go_wp2;go_loopg [3,8] k (fun kq v3 v8 w'=>∃ (x3_1:ByteArray) (x8_1:Int),v3 = .string x3_1∧v8 = .int .i64 x8_1∧Aside0 (route_Print.l0 kq x3_1 l0 (l0.length:Int) x8_1=some r)∧Aside0 (kq≤k)∧Aside0 (Below w.heap.size w w'))
 case atStart=>exact ⟨((⟨#[36]⟩:ByteArray)),(0),(by first|rfl|(simp;done)|(simp [*];done)),(by first|rfl|(simp;done)|(simp [*];done)),H',⟨Nat.le_refl _⟩,⟨bw HB.out⟩⟩
 case round=>
  clear H';obtain ⟨x3_1,x8_1,rfl,rfl,HA,HK1,HB⟩:=hrel;cases gk with
  | zero=>exact absurd HA.out (by simp [route_Print.l0])
  | succ k1=>
   have H:=HA.out;clear HA;simp only [route_Print.l0] at H;by_cases c2:x8_1 < (l0.length:Int)
   ·rw [if_pos c2] at H;have c2b0:decide (x8_1 < (l0.length:Int))=true:=decide_eq_true c2;clear c2;by_cases c3:0≤x8_1
    ·rw [if_pos c3] at H;have c3b0:decide (0≤x8_1)=true:=decide_eq_true c3;clear c3;by_cases c4:x8_1 < (l0.length:Int)
     ·rw [if_pos c4] at H;have c4b0:decide (x8_1 < (l0.length:Int))=true:=decide_eq_true c4;clear c4;by_cases c5:((rd_T83 l0 x8_1).f0)=0
      ·rw [if_pos c5] at H;have c5b0:(((rd_T83 l0 x8_1).f0) == 0)=true:=beq_iff_eq.mpr c5;have c5b1:(((rd_T83 l0 x8_1).f0) != 0)=false:=bne_eq_false_iff_eq.mpr c5;clear c5;replace H:=Option.bind_eq_some_iff.mp H;obtain ⟨t113,A60,H⟩:=H;replace H:(if t113=true then (if 1+((rd_T83 l0 x8_1).f4).size≤9223372036854775807 then (if x3_1.size+((⟨#[46]⟩:ByteArray)++((rd_T83 l0 x8_1).f4)).size≤9223372036854775807 then (route_Print.l0 k1 (x3_1++((⟨#[46]⟩:ByteArray)++((rd_T83 l0 x8_1).f4))) l0 (l0.length:Int) (wrap64 (x8_1+1))) else (none)) else (none)) else ((quote_Quote.f k1 ((rd_T83 l0 x8_1).f4)).bind fun t114=>(if 1+t114.size≤9223372036854775807 then (if ((⟨#[91]⟩:ByteArray)++t114).size+1≤9223372036854775807 then (if x3_1.size+(((⟨#[91]⟩:ByteArray)++t114)++(⟨#[93]⟩:ByteArray)).size≤9223372036854775807 then (route_Print.l0 k1 (x3_1++(((⟨#[91]⟩:ByteArray)++t114)++(⟨#[93]⟩:ByteArray))) l0 (l0.length:Int) (wrap64 (x8_1+1))) else (none)) else (none)) else (none))))=some r:=H;have A6:=Aside0.mk A60;clear A60;by_cases c7:t113=true
       ·subst c7;(have H1:(if 1+((rd_T83 l0 x8_1).f4).size≤9223372036854775807 then (if x3_1.size+((⟨#[46]⟩:ByteArray)++((rd_T83 l0 x8_1).f4)).size≤9223372036854775807 then (route_Print.l0 k1 (x3_1++((⟨#[46]⟩:ByteArray)++((rd_T83 l0 x8_1).f4))) l0 (l0.length:Int) (wrap64 (x8_1+1))) else (none)) else (none))=some r:=by rw [if_pos rfl] at H;exact H);clear H;have H:=H1;clear H1;by_cases c8:1+((rd_T83 l0 x8_1).f4).size≤9223372036854775807
        ·rw [if_pos c8] at H;have c8b0:=eq_true c8;have c8b1:decide (1+((rd_T83 l0 x8_1).f4).size≤9223372036854775807)=true:=decide_eq_true c8;(try have c8b2:(9223372036854775807 < 1+((rd_T83 l0 x8_1).f4).size)=False:=eq_false (Nat.not_lt.2 c8));by_cases c9:x3_1.size+((⟨#[46]⟩:ByteArray)++((rd_T83 l0 x8_1).f4)).size≤9223372036854775807
         ·rw [if_pos c9] at H;have c9b0:=eq_true c9;have c9b1:decide (x3_1.size+((⟨#[46]⟩:ByteArray)++((rd_T83 l0 x8_1).f4)).size≤9223372036854775807)=true:=decide_eq_true c9;(try have c9b2:(9223372036854775807 < x3_1.size+((⟨#[46]⟩:ByteArray)++((rd_T83 l0 x8_1).f4)).size)=False:=eq_false (Nat.not_lt.2 c9));(try have c9b3:(9223372036854775807 < x3_1.size+(1+((rd_T83 l0 x8_1).f4).size))=False:=eq_false (Nat.not_lt.2 (by have h_:=c9;simp only [ByteArray.size_append] at h_;exact h_)));have H':=Aside0.mk H;clear H;have p111:0≤(x8_1:Int):=of_decide_eq_true (by assumption);have q111:x8_1 < (l0.length:Int):=of_decide_eq_true (by assumption);obtain ⟨ad111,e111,hx111_0,hx111_1,hx111_2,hx111_3,hx111_4⟩:=at_T83 HR0.out x8_1 p111 q111;cases e111;replace hx111_0:=(HB.out.cell (World.block_lt_of_cell? w _ hx111_0)).trans hx111_0;replace hx111_1:=(HB.out.cell (World.block_lt_of_cell? w _ hx111_1)).trans hx111_1;replace hx111_2:=(HB.out.cell (World.block_lt_of_cell? w _ hx111_2)).trans hx111_2;replace hx111_3:=(HB.out.cell (World.block_lt_of_cell? w _ hx111_3)).trans hx111_3;replace hx111_4:=(HB.out.cell (World.block_lt_of_cell? w _ hx111_4)).trans hx111_4;replace p111:=eq_true p111;replace q111:=eq_true q111;go_wp2_with (first|((with_reducible refine gate_dst (N:=5) rfl ?_);refine box_event ?hg (N:=5) ?hd (cs:=#[.int .i64 0,.int .i64 0,.int .i64 0,.int .i64 0,.string (⟨#[]⟩:ByteArray)]) (t:=83) ?hr ?_;(case hd=>rfl);(case hg=>rfl);(case hr=>first|(go_simp;done)|(go_simp;rfl));intro gb112 hg w10 hbox hb;have n0_:=Aside0.mk (below_step (bw HB.out) hb);have n1_:=Aside0.mk (hbox);have n2_:=Aside0.mk ((by rw [hg];exact (below_size (bw HB.out)):w.heap.size≤gb112));have n3_:=Aside0.mk ((by rw [hg];exact (below_size (bw HB.out)):w.heap.size≤gb112));clear HB;have HB:=n0_;have BK112:=n1_;have GW112:=n2_;have GE112:=n3_;clear n0_ n1_ n2_ n3_;clear hb hbox hg;obtain ⟨hcz11_0,hcz11_1,hcz11_2,hcz11_3,hcz11_4⟩:=cells5 BK112.out;obtain ⟨hfz11_0,hfz11_1,hfz11_2,hfz11_3,hfz11_4⟩:=frozen5 BK112.out)|((with_reducible refine gate_callee (f:=68) rfl ?_);refine goesL_ (some 18) rfl rfl Tryd.func68 (by kernel_rfl) rfl #[.string ((rd_T83 l0 x8_1).f4)] rfl (by (try simp only [List.map_toArray,List.map_cons,List.map_nil]);first|done|rfl|(simp only [List.length_drop,List.length_take];rfl)) ?_;(with_reducible refine (quote_Name.calls k1 ((rd_T83 l0 x8_1).f4) true _ A6.out).mono ?_);rintro e w' ⟨rfl,⟨nd,rfl⟩⟩;refine ⟨_,rfl,?_⟩));go_roundg k1
          case measure=>have:=HK1.out;omega
          case rel=>exact ⟨(x3_1++((⟨#[46]⟩:ByteArray)++((rd_T83 l0 x8_1).f4))),(wrap64 (x8_1+1)),(by first|rfl|(simp;done)|(simp [*];done)),(by first|rfl|(simp;done)|(simp [*];done)),H',⟨by have:=HK1.out;omega⟩,⟨by repeat (first|(with_reducible first|exact HB.out|apply below_alloc|apply pw_below_drewN|apply below_drew1|refine below_set ?_ GE112.out)|exact HB.out)⟩⟩
         ·rw [if_neg c9] at H;exact absurd H (by simp)
        ·rw [if_neg c8] at H;exact absurd H (by simp)
       ·replace c7:=Bool.eq_false_iff.mpr c7;subst c7;(have H1:((quote_Quote.f k1 ((rd_T83 l0 x8_1).f4)).bind fun t114=>(if 1+t114.size≤9223372036854775807 then (if ((⟨#[91]⟩:ByteArray)++t114).size+1≤9223372036854775807 then (if x3_1.size+(((⟨#[91]⟩:ByteArray)++t114)++(⟨#[93]⟩:ByteArray)).size≤9223372036854775807 then (route_Print.l0 k1 (x3_1++(((⟨#[91]⟩:ByteArray)++t114)++(⟨#[93]⟩:ByteArray))) l0 (l0.length:Int) (wrap64 (x8_1+1))) else (none)) else (none)) else (none)))=some r:=by rw [if_neg (show ¬ (false=true) by decide)] at H;exact H);clear H;have H:=H1;clear H1;replace H:=Option.bind_eq_some_iff.mp H;obtain ⟨t114,A120,H⟩:=H;replace H:(if 1+t114.size≤9223372036854775807 then (if ((⟨#[91]⟩:ByteArray)++t114).size+1≤9223372036854775807 then (if x3_1.size+(((⟨#[91]⟩:ByteArray)++t114)++(⟨#[93]⟩:ByteArray)).size≤9223372036854775807 then (route_Print.l0 k1 (x3_1++(((⟨#[91]⟩:ByteArray)++t114)++(⟨#[93]⟩:ByteArray))) l0 (l0.length:Int) (wrap64 (x8_1+1))) else (none)) else (none)) else (none))=some r:=H;have A12:=Aside0.mk A120;clear A120;by_cases c13:1+t114.size≤9223372036854775807
        ·rw [if_pos c13] at H;have c13b0:=eq_true c13;have c13b1:decide (1+t114.size≤9223372036854775807)=true:=decide_eq_true c13;(try have c13b2:(9223372036854775807 < 1+t114.size)=False:=eq_false (Nat.not_lt.2 c13));by_cases c14:((⟨#[91]⟩:ByteArray)++t114).size+1≤9223372036854775807
         ·rw [if_pos c14] at H;have c14b0:=eq_true c14;have c14b1:decide (((⟨#[91]⟩:ByteArray)++t114).size+1≤9223372036854775807)=true:=decide_eq_true c14;(try have c14b2:(9223372036854775807 < ((⟨#[91]⟩:ByteArray)++t114).size+1)=False:=eq_false (Nat.not_lt.2 c14));(try have c14b3:(9223372036854775807 < 1+t114.size+1)=False:=eq_false (Nat.not_lt.2 (by have h_:=c14;simp only [ByteArray.size_append] at h_;exact h_)));by_cases c15:x3_1.size+(((⟨#[91]⟩:ByteArray)++t114)++(⟨#[93]⟩:ByteArray)).size≤9223372036854775807
          ·rw [if_pos c15] at H;have c15b0:=eq_true c15;have c15b1:decide (x3_1.size+(((⟨#[91]⟩:ByteArray)++t114)++(⟨#[93]⟩:ByteArray)).size≤9223372036854775807)=true:=decide_eq_true c15;(try have c15b2:(9223372036854775807 < x3_1.size+(((⟨#[91]⟩:ByteArray)++t114)++(⟨#[93]⟩:ByteArray)).size)=False:=eq_false (Nat.not_lt.2 c15));(try have c15b3:(9223372036854775807 < x3_1.size+(1+t114.size+1))=False:=eq_false (Nat.not_lt.2 (by have h_:=c15;simp only [ByteArray.size_append] at h_;exact h_)));have H':=Aside0.mk H;clear H;have p111:0≤(x8_1:Int):=of_decide_eq_true (by assumption);have q111:x8_1 < (l0.length:Int):=of_decide_eq_true (by assumption);obtain ⟨ad111,e111,hx111_0,hx111_1,hx111_2,hx111_3,hx111_4⟩:=at_T83 HR0.out x8_1 p111 q111;cases e111;replace hx111_0:=(HB.out.cell (World.block_lt_of_cell? w _ hx111_0)).trans hx111_0;replace hx111_1:=(HB.out.cell (World.block_lt_of_cell? w _ hx111_1)).trans hx111_1;replace hx111_2:=(HB.out.cell (World.block_lt_of_cell? w _ hx111_2)).trans hx111_2;replace hx111_3:=(HB.out.cell (World.block_lt_of_cell? w _ hx111_3)).trans hx111_3;replace hx111_4:=(HB.out.cell (World.block_lt_of_cell? w _ hx111_4)).trans hx111_4;replace p111:=eq_true p111;replace q111:=eq_true q111;go_wp2_with (first|((with_reducible refine gate_dst (N:=5) rfl ?_);refine box_event ?hg (N:=5) ?hd (cs:=#[.int .i64 0,.int .i64 0,.int .i64 0,.int .i64 0,.string (⟨#[]⟩:ByteArray)]) (t:=83) ?hr ?_;(case hd=>rfl);(case hg=>rfl);(case hr=>first|(go_simp;done)|(go_simp;rfl));intro gb112 hg w16 hbox hb;have n0_:=Aside0.mk (below_step (bw HB.out) hb);have n1_:=Aside0.mk (hbox);have n2_:=Aside0.mk ((by rw [hg];exact (below_size (bw HB.out)):w.heap.size≤gb112));have n3_:=Aside0.mk ((by rw [hg];exact (below_size (bw HB.out)):w.heap.size≤gb112));clear HB;have HB:=n0_;have BK112:=n1_;have GW112:=n2_;have GE112:=n3_;clear n0_ n1_ n2_ n3_;clear hb hbox hg;obtain ⟨hcz17_0,hcz17_1,hcz17_2,hcz17_3,hcz17_4⟩:=cells5 BK112.out;obtain ⟨hfz17_0,hfz17_1,hfz17_2,hfz17_3,hfz17_4⟩:=frozen5 BK112.out)|((with_reducible refine gate_callee (f:=68) rfl ?_);refine goesL_ (some 18) rfl rfl Tryd.func68 (by kernel_rfl) rfl #[.string ((rd_T83 l0 x8_1).f4)] rfl (by (try simp only [List.map_toArray,List.map_cons,List.map_nil]);first|done|rfl|(simp only [List.length_drop,List.length_take];rfl)) ?_;(with_reducible refine (quote_Name.calls k1 ((rd_T83 l0 x8_1).f4) false _ A6.out).mono ?_);rintro e w' ⟨rfl,⟨nd,rfl⟩⟩;refine ⟨_,rfl,?_⟩)|((with_reducible refine gate_callee (f:=58) rfl ?_);refine goesL_ (some 27) rfl rfl Tryd.func58 (by kernel_rfl) rfl #[.string ((rd_T83 l0 x8_1).f4)] rfl (by (try simp only [List.map_toArray,List.map_cons,List.map_nil]);first|done|rfl|(simp only [List.length_drop,List.length_take];rfl)) ?_;(with_reducible refine (quote_Quote.calls k1 ((rd_T83 l0 x8_1).f4) t114 _ A12.out).mono ?_);rintro e w18 ⟨rfl,hb⟩;refine ⟨_,rfl,?_⟩;have n0_:=Aside0.mk (blk_below (g:=gb112) (o:=.cells #[.int .i64 ((rd_T83 l0 x8_1).f0),.int .i64 ((rd_T83 l0 x8_1).f1),.int .i64 ((rd_T83 l0 x8_1).f2),.int .i64 ((rd_T83 l0 x8_1).f3),.string ((rd_T83 l0 x8_1).f4)] 83 (0,0)) (by (with_reducible repeat (first|refine blk_drewN ?_ _|refine blk_drew ?_|refine blk_alloc ?_ _));refine blk_put (cs:=#[.int .i64 ((rd_T83 l0 x8_1).f0),.int .i64 ((rd_T83 l0 x8_1).f1),.int .i64 ((rd_T83 l0 x8_1).f2),.int .i64 ((rd_T83 l0 x8_1).f3),.string (⟨#[]⟩:ByteArray)]) ?_ 4 _ rfl;(with_reducible repeat (first|refine blk_drewN ?_ _|refine blk_drew ?_|refine blk_alloc ?_ _));refine blk_put (cs:=#[.int .i64 ((rd_T83 l0 x8_1).f0),.int .i64 ((rd_T83 l0 x8_1).f1),.int .i64 ((rd_T83 l0 x8_1).f2),.int .i64 0,.string (⟨#[]⟩:ByteArray)]) ?_ 3 _ rfl;(with_reducible repeat (first|refine blk_drewN ?_ _|refine blk_drew ?_|refine blk_alloc ?_ _));refine blk_put (cs:=#[.int .i64 ((rd_T83 l0 x8_1).f0),.int .i64 ((rd_T83 l0 x8_1).f1),.int .i64 0,.int .i64 0,.string (⟨#[]⟩:ByteArray)]) ?_ 2 _ rfl;(with_reducible repeat (first|refine blk_drewN ?_ _|refine blk_drew ?_|refine blk_alloc ?_ _));refine blk_put (cs:=#[.int .i64 ((rd_T83 l0 x8_1).f0),.int .i64 0,.int .i64 0,.int .i64 0,.string (⟨#[]⟩:ByteArray)]) ?_ 1 _ rfl;(with_reducible repeat (first|refine blk_drewN ?_ _|refine blk_drew ?_|refine blk_alloc ?_ _));refine blk_put (cs:=#[.int .i64 0,.int .i64 0,.int .i64 0,.int .i64 0,.string (⟨#[]⟩:ByteArray)]) ?_ 0 _ rfl;(with_reducible repeat (first|refine blk_drewN ?_ _|refine blk_drew ?_|refine blk_alloc ?_ _));exact BK112.out) hb);have n1_:=Aside0.mk (below_step (by repeat (first|(with_reducible first|exact HB.out|apply below_alloc|apply pw_below_drewN|apply below_drew1|refine below_set ?_ GE112.out)|exact HB.out)) hb);clear BK112;clear HB;have BK112:=n0_;have HB:=n1_;clear n0_ n1_;(try clear hb);(try clear hb2);(try clear hk);(try clear hi)));go_roundg k1
           case measure=>have:=HK1.out;omega
           case rel=>exact ⟨(x3_1++(((⟨#[91]⟩:ByteArray)++t114)++(⟨#[93]⟩:ByteArray))),(wrap64 (x8_1+1)),(by first|rfl|(simp;done)|(simp [*];done)),(by first|rfl|(simp;done)|(simp [*];done)),H',⟨by have:=HK1.out;omega⟩,⟨by repeat (first|(with_reducible first|exact HB.out|apply below_alloc|apply pw_below_drewN|apply below_drew1|refine below_set ?_ GE112.out)|exact HB.out)⟩⟩
          ·rw [if_neg c15] at H;exact absurd H (by simp)
         ·rw [if_neg c14] at H;exact absurd H (by simp)
        ·rw [if_neg c13] at H;exact absurd H (by simp)
      ·rw [if_neg c5] at H;have c5b0:(((rd_T83 l0 x8_1).f0) == 0)=false:=beq_eq_false_iff_ne.mpr c5;have c5b1:(((rd_T83 l0 x8_1).f0) != 0)=true:=bne_iff_ne.mpr c5;by_cases c19:((rd_T83 l0 x8_1).f0)=1
       ·rw [if_pos c19] at H;have c19b0:(((rd_T83 l0 x8_1).f0) == 1)=true:=beq_iff_eq.mpr c19;have c19b1:(((rd_T83 l0 x8_1).f0) != 1)=false:=bne_eq_false_iff_eq.mpr c19;clear c19;replace H:=Option.bind_eq_some_iff.mp H;obtain ⟨t115,A200,H⟩:=H;replace H:(if 1+t115.size≤9223372036854775807 then (if ((⟨#[91]⟩:ByteArray)++t115).size+1≤9223372036854775807 then (if x3_1.size+(((⟨#[91]⟩:ByteArray)++t115)++(⟨#[93]⟩:ByteArray)).size≤9223372036854775807 then (route_Print.l0 k1 (x3_1++(((⟨#[91]⟩:ByteArray)++t115)++(⟨#[93]⟩:ByteArray))) l0 (l0.length:Int) (wrap64 (x8_1+1))) else (none)) else (none)) else (none))=some r:=H;have A20:=Aside0.mk A200;clear A200;by_cases c21:1+t115.size≤9223372036854775807
        ·rw [if_pos c21] at H;have c21b0:=eq_true c21;have c21b1:decide (1+t115.size≤9223372036854775807)=true:=decide_eq_true c21;(try have c21b2:(9223372036854775807 < 1+t115.size)=False:=eq_false (Nat.not_lt.2 c21));by_cases c22:((⟨#[91]⟩:ByteArray)++t115).size+1≤9223372036854775807
         ·rw [if_pos c22] at H;have c22b0:=eq_true c22;have c22b1:decide (((⟨#[91]⟩:ByteArray)++t115).size+1≤9223372036854775807)=true:=decide_eq_true c22;(try have c22b2:(9223372036854775807 < ((⟨#[91]⟩:ByteArray)++t115).size+1)=False:=eq_false (Nat.not_lt.2 c22));(try have c22b3:(9223372036854775807 < 1+t115.size+1)=False:=eq_false (Nat.not_lt.2 (by have h_:=c22;simp only [ByteArray.size_append] at h_;exact h_)));by_cases c23:x3_1.size+(((⟨#[91]⟩:ByteArray)++t115)++(⟨#[93]⟩:ByteArray)).size≤9223372036854775807
          ·rw [if_pos c23] at H;have c23b0:=eq_true c23;have c23b1:decide (x3_1.size+(((⟨#[91]⟩:ByteArray)++t115)++(⟨#[93]⟩:ByteArray)).size≤9223372036854775807)=true:=decide_eq_true c23;(try have c23b2:(9223372036854775807 < x3_1.size+(((⟨#[91]⟩:ByteArray)++t115)++(⟨#[93]⟩:ByteArray)).size)=False:=eq_false (Nat.not_lt.2 c23));(try have c23b3:(9223372036854775807 < x3_1.size+(1+t115.size+1))=False:=eq_false (Nat.not_lt.2 (by have h_:=c23;simp only [ByteArray.size_append] at h_;exact h_)));have H':=Aside0.mk H;clear H;have p111:0≤(x8_1:Int):=of_decide_eq_true (by assumption);have q111:x8_1 < (l0.length:Int):=of_decide_eq_true (by assumption);obtain ⟨ad111,e111,hx111_0,hx111_1,hx111_2,hx111_3,hx111_4⟩:=at_T83 HR0.out x8_1 p111 q111;cases e111;replace hx111_0:=(HB.out.cell (World.block_lt_of_cell? w _ hx111_0)).trans hx111_0;replace hx111_1:=(HB.out.cell (World.block_lt_of_cell? w _ hx111_1)).trans hx111_1;replace hx111_2:=(HB.out.cell (World.block_lt_of_cell? w _ hx111_2)).trans hx111_2;replace hx111_3:=(HB.out.cell (World.block_lt_of_cell? w _ hx111_3)).trans hx111_3;replace hx111_4:=(HB.out.cell (World.block_lt_of_cell? w _ hx111_4)).trans hx111_4;replace p111:=eq_true p111;replace q111:=eq_true q111;go_wp2_with (first|((with_reducible refine gate_dst (N:=5) rfl ?_);refine box_event ?hg (N:=5) ?hd (cs:=#[.int .i64 0,.int .i64 0,.int .i64 0,.int .i64 0,.string (⟨#[]⟩:ByteArray)]) (t:=83) ?hr ?_;(case hd=>rfl);(case hg=>rfl);(case hr=>first|(go_simp;done)|(go_simp;rfl));intro gb112 hg w24 hbox hb;have n0_:=Aside0.mk (below_step (bw HB.out) hb);have n1_:=Aside0.mk (hbox);have n2_:=Aside0.mk ((by rw [hg];exact (below_size (bw HB.out)):w.heap.size≤gb112));have n3_:=Aside0.mk ((by rw [hg];exact (below_size (bw HB.out)):w.heap.size≤gb112));clear HB;have HB:=n0_;have BK112:=n1_;have GW112:=n2_;have GE112:=n3_;clear n0_ n1_ n2_ n3_;clear hb hbox hg;obtain ⟨hcz25_0,hcz25_1,hcz25_2,hcz25_3,hcz25_4⟩:=cells5 BK112.out;obtain ⟨hfz25_0,hfz25_1,hfz25_2,hfz25_3,hfz25_4⟩:=frozen5 BK112.out)|((with_reducible refine gate_callee (f:=57) rfl ?_);refine goesL_ (some 36) rfl rfl Tryd.func57 (by kernel_rfl) rfl #[.int .i64 ((rd_T83 l0 x8_1).f1)] rfl (by (try simp only [List.map_toArray,List.map_cons,List.map_nil]);first|done|rfl|(simp only [List.length_drop,List.length_take];rfl)) ?_;(with_reducible refine (num_Digits.calls ((rd_T83 l0 x8_1).f1) t115 _ A20.out).mono ?_);rintro e w26 ⟨rfl,hb⟩;refine ⟨_,rfl,?_⟩;have n0_:=Aside0.mk (blk_below (g:=gb112) (o:=.cells #[.int .i64 ((rd_T83 l0 x8_1).f0),.int .i64 ((rd_T83 l0 x8_1).f1),.int .i64 ((rd_T83 l0 x8_1).f2),.int .i64 ((rd_T83 l0 x8_1).f3),.string ((rd_T83 l0 x8_1).f4)] 83 (0,0)) (by (with_reducible repeat (first|refine blk_drewN ?_ _|refine blk_drew ?_|refine blk_alloc ?_ _));refine blk_put (cs:=#[.int .i64 ((rd_T83 l0 x8_1).f0),.int .i64 ((rd_T83 l0 x8_1).f1),.int .i64 ((rd_T83 l0 x8_1).f2),.int .i64 ((rd_T83 l0 x8_1).f3),.string (⟨#[]⟩:ByteArray)]) ?_ 4 _ rfl;(with_reducible repeat (first|refine blk_drewN ?_ _|refine blk_drew ?_|refine blk_alloc ?_ _));refine blk_put (cs:=#[.int .i64 ((rd_T83 l0 x8_1).f0),.int .i64 ((rd_T83 l0 x8_1).f1),.int .i64 ((rd_T83 l0 x8_1).f2),.int .i64 0,.string (⟨#[]⟩:ByteArray)]) ?_ 3 _ rfl;(with_reducible repeat (first|refine blk_drewN ?_ _|refine blk_drew ?_|refine blk_alloc ?_ _));refine blk_put (cs:=#[.int .i64 ((rd_T83 l0 x8_1).f0),.int .i64 ((rd_T83 l0 x8_1).f1),.int .i64 0,.int .i64 0,.string (⟨#[]⟩:ByteArray)]) ?_ 2 _ rfl;(with_reducible repeat (first|refine blk_drewN ?_ _|refine blk_drew ?_|refine blk_alloc ?_ _));refine blk_put (cs:=#[.int .i64 ((rd_T83 l0 x8_1).f0),.int .i64 0,.int .i64 0,.int .i64 0,.string (⟨#[]⟩:ByteArray)]) ?_ 1 _ rfl;(with_reducible repeat (first|refine blk_drewN ?_ _|refine blk_drew ?_|refine blk_alloc ?_ _));refine blk_put (cs:=#[.int .i64 0,.int .i64 0,.int .i64 0,.int .i64 0,.string (⟨#[]⟩:ByteArray)]) ?_ 0 _ rfl;(with_reducible repeat (first|refine blk_drewN ?_ _|refine blk_drew ?_|refine blk_alloc ?_ _));exact BK112.out) hb);have n1_:=Aside0.mk (below_step (by repeat (first|(with_reducible first|exact HB.out|apply below_alloc|apply pw_below_drewN|apply below_drew1|refine below_set ?_ GE112.out)|exact HB.out)) hb);clear BK112;clear HB;have BK112:=n0_;have HB:=n1_;clear n0_ n1_;(try clear hb);(try clear hb2);(try clear hk);(try clear hi)));go_roundg k1
           case measure=>have:=HK1.out;omega
           case rel=>exact ⟨(x3_1++(((⟨#[91]⟩:ByteArray)++t115)++(⟨#[93]⟩:ByteArray))),(wrap64 (x8_1+1)),(by first|rfl|(simp;done)|(simp [*];done)),(by first|rfl|(simp;done)|(simp [*];done)),H',⟨by have:=HK1.out;omega⟩,⟨by repeat (first|(with_reducible first|exact HB.out|apply below_alloc|apply pw_below_drewN|apply below_drew1|refine below_set ?_ GE112.out)|exact HB.out)⟩⟩
          ·rw [if_neg c23] at H;exact absurd H (by simp)
         ·rw [if_neg c22] at H;exact absurd H (by simp)
        ·rw [if_neg c21] at H;exact absurd H (by simp)
       ·rw [if_neg c19] at H;have c19b0:(((rd_T83 l0 x8_1).f0) == 1)=false:=beq_eq_false_iff_ne.mpr c19;have c19b1:(((rd_T83 l0 x8_1).f0) != 1)=true:=bne_iff_ne.mpr c19;by_cases c27:((rd_T83 l0 x8_1).f0)=2
        ·rw [if_pos c27] at H;have c27b0:(((rd_T83 l0 x8_1).f0) == 2)=true:=beq_iff_eq.mpr c27;have c27b1:(((rd_T83 l0 x8_1).f0) != 2)=false:=bne_eq_false_iff_eq.mpr c27;clear c27;replace H:=Option.bind_eq_some_iff.mp H;obtain ⟨t116,A280,H⟩:=H;replace H:(if 1+t116.size≤9223372036854775807 then (if ((⟨#[91]⟩:ByteArray)++t116).size+1≤9223372036854775807 then ((route_end.f ((rd_T83 l0 x8_1).f3) 9223372036854775807).bind fun t117=>(if (((⟨#[91]⟩:ByteArray)++t116)++(⟨#[58]⟩:ByteArray)).size+t117.size≤9223372036854775807 then (if ((((⟨#[91]⟩:ByteArray)++t116)++(⟨#[58]⟩:ByteArray))++t117).size+1≤9223372036854775807 then (if x3_1.size+(((((⟨#[91]⟩:ByteArray)++t116)++(⟨#[58]⟩:ByteArray))++t117)++(⟨#[93]⟩:ByteArray)).size≤9223372036854775807 then (route_Print.l0 k1 (x3_1++(((((⟨#[91]⟩:ByteArray)++t116)++(⟨#[58]⟩:ByteArray))++t117)++(⟨#[93]⟩:ByteArray))) l0 (l0.length:Int) (wrap64 (x8_1+1))) else (none)) else (none)) else (none))) else (none)) else (none))=some r:=H;have A28:=Aside0.mk A280;clear A280;by_cases c29:1+t116.size≤9223372036854775807
         ·rw [if_pos c29] at H;have c29b0:=eq_true c29;have c29b1:decide (1+t116.size≤9223372036854775807)=true:=decide_eq_true c29;(try have c29b2:(9223372036854775807 < 1+t116.size)=False:=eq_false (Nat.not_lt.2 c29));by_cases c30:((⟨#[91]⟩:ByteArray)++t116).size+1≤9223372036854775807
          ·rw [if_pos c30] at H;have c30b0:=eq_true c30;have c30b1:decide (((⟨#[91]⟩:ByteArray)++t116).size+1≤9223372036854775807)=true:=decide_eq_true c30;(try have c30b2:(9223372036854775807 < ((⟨#[91]⟩:ByteArray)++t116).size+1)=False:=eq_false (Nat.not_lt.2 c30));(try have c30b3:(9223372036854775807 < 1+t116.size+1)=False:=eq_false (Nat.not_lt.2 (by have h_:=c30;simp only [ByteArray.size_append] at h_;exact h_)));replace H:=Option.bind_eq_some_iff.mp H;obtain ⟨t117,A310,H⟩:=H;replace H:(if (((⟨#[91]⟩:ByteArray)++t116)++(⟨#[58]⟩:ByteArray)).size+t117.size≤9223372036854775807 then (if ((((⟨#[91]⟩:ByteArray)++t116)++(⟨#[58]⟩:ByteArray))++t117).size+1≤9223372036854775807 then (if x3_1.size+(((((⟨#[91]⟩:ByteArray)++t116)++(⟨#[58]⟩:ByteArray))++t117)++(⟨#[93]⟩:ByteArray)).size≤9223372036854775807 then (route_Print.l0 k1 (x3_1++(((((⟨#[91]⟩:ByteArray)++t116)++(⟨#[58]⟩:ByteArray))++t117)++(⟨#[93]⟩:ByteArray))) l0 (l0.length:Int) (wrap64 (x8_1+1))) else (none)) else (none)) else (none))=some r:=H;have A31:=Aside0.mk A310;clear A310;by_cases c32:(((⟨#[91]⟩:ByteArray)++t116)++(⟨#[58]⟩:ByteArray)).size+t117.size≤9223372036854775807
           ·rw [if_pos c32] at H;have c32b0:=eq_true c32;have c32b1:decide ((((⟨#[91]⟩:ByteArray)++t116)++(⟨#[58]⟩:ByteArray)).size+t117.size≤9223372036854775807)=true:=decide_eq_true c32;(try have c32b2:(9223372036854775807 < (((⟨#[91]⟩:ByteArray)++t116)++(⟨#[58]⟩:ByteArray)).size+t117.size)=False:=eq_false (Nat.not_lt.2 c32));(try have c32b3:(9223372036854775807 < 1+t116.size+1+t117.size)=False:=eq_false (Nat.not_lt.2 (by have h_:=c32;simp only [ByteArray.size_append] at h_;exact h_)));by_cases c33:((((⟨#[91]⟩:ByteArray)++t116)++(⟨#[58]⟩:ByteArray))++t117).size+1≤9223372036854775807
            ·rw [if_pos c33] at H;have c33b0:=eq_true c33;have c33b1:decide (((((⟨#[91]⟩:ByteArray)++t116)++(⟨#[58]⟩:ByteArray))++t117).size+1≤9223372036854775807)=true:=decide_eq_true c33;(try have c33b2:(9223372036854775807 < ((((⟨#[91]⟩:ByteArray)++t116)++(⟨#[58]⟩:ByteArray))++t117).size+1)=False:=eq_false (Nat.not_lt.2 c33));(try have c33b3:(9223372036854775807 < 1+t116.size+1+t117.size+1)=False:=eq_false (Nat.not_lt.2 (by have h_:=c33;simp only [ByteArray.size_append] at h_;exact h_)));by_cases c34:x3_1.size+(((((⟨#[91]⟩:ByteArray)++t116)++(⟨#[58]⟩:ByteArray))++t117)++(⟨#[93]⟩:ByteArray)).size≤9223372036854775807
             ·rw [if_pos c34] at H;have c34b0:=eq_true c34;have c34b1:decide (x3_1.size+(((((⟨#[91]⟩:ByteArray)++t116)++(⟨#[58]⟩:ByteArray))++t117)++(⟨#[93]⟩:ByteArray)).size≤9223372036854775807)=true:=decide_eq_true c34;(try have c34b2:(9223372036854775807 < x3_1.size+(((((⟨#[91]⟩:ByteArray)++t116)++(⟨#[58]⟩:ByteArray))++t117)++(⟨#[93]⟩:ByteArray)).size)=False:=eq_false (Nat.not_lt.2 c34));(try have c34b3:(9223372036854775807 < x3_1.size+(1+t116.size+1+t117.size+1))=False:=eq_false (Nat.not_lt.2 (by have h_:=c34;simp only [ByteArray.size_append] at h_;exact h_)));have H':=Aside0.mk H;clear H;have p111:0≤(x8_1:Int):=of_decide_eq_true (by assumption);have q111:x8_1 < (l0.length:Int):=of_decide_eq_true (by assumption);obtain ⟨ad111,e111,hx111_0,hx111_1,hx111_2,hx111_3,hx111_4⟩:=at_T83 HR0.out x8_1 p111 q111;cases e111;replace hx111_0:=(HB.out.cell (World.block_lt_of_cell? w _ hx111_0)).trans hx111_0;replace hx111_1:=(HB.out.cell (World.block_lt_of_cell? w _ hx111_1)).trans hx111_1;replace hx111_2:=(HB.out.cell (World.block_lt_of_cell? w _ hx111_2)).trans hx111_2;replace hx111_3:=(HB.out.cell (World.block_lt_of_cell? w _ hx111_3)).trans hx111_3;replace hx111_4:=(HB.out.cell (World.block_lt_of_cell? w _ hx111_4)).trans hx111_4;replace p111:=eq_true p111;replace q111:=eq_true q111;(try go_wp2_with (first|((with_reducible refine gate_dst (N:=5) rfl ?_);refine box_event ?hg (N:=5) ?hd (cs:=#[.int .i64 0,.int .i64 0,.int .i64 0,.int .i64 0,.string (⟨#[]⟩:ByteArray)]) (t:=83) ?hr ?_;(case hd=>rfl);(case hg=>rfl);(case hr=>first|(go_simp;done)|(go_simp;rfl));intro gb112 hg w35 hbox hb;have n0_:=Aside0.mk (below_step (bw HB.out) hb);have n1_:=Aside0.mk (hbox);have n2_:=Aside0.mk ((by rw [hg];exact (below_size (bw HB.out)):w.heap.size≤gb112));have n3_:=Aside0.mk ((by rw [hg];exact (below_size (bw HB.out)):w.heap.size≤gb112));clear HB;have HB:=n0_;have BK112:=n1_;have GW112:=n2_;have GE112:=n3_;clear n0_ n1_ n2_ n3_;clear hb hbox hg;obtain ⟨hcz36_0,hcz36_1,hcz36_2,hcz36_3,hcz36_4⟩:=cells5 BK112.out;obtain ⟨hfz36_0,hfz36_1,hfz36_2,hfz36_3,hfz36_4⟩:=frozen5 BK112.out)));have n0_:Aside0 ((((((w35.setCell ⟨gb112,0,none⟩ (.int .i64 ((rd_T83 l0 x8_1).f0))).setCell ⟨gb112,1,none⟩ (.int .i64 ((rd_T83 l0 x8_1).f1))).setCell ⟨gb112,2,none⟩ (.int .i64 ((rd_T83 l0 x8_1).f2))).setCell ⟨gb112,3,none⟩ (.int .i64 ((rd_T83 l0 x8_1).f3))).setCell ⟨gb112,4,none⟩ (.string ((rd_T83 l0 x8_1).f4))).heap[gb112]? = some (.cells #[.int .i64 ((rd_T83 l0 x8_1).f0),.int .i64 ((rd_T83 l0 x8_1).f1),.int .i64 ((rd_T83 l0 x8_1).f2),.int .i64 ((rd_T83 l0 x8_1).f3),.string ((rd_T83 l0 x8_1).f4)] 83 (0,0))):=⟨by (with_reducible repeat (first|refine blk_drewN ?_ _|refine blk_drew ?_|refine blk_alloc ?_ _));refine blk_put (cs:=#[.int .i64 ((rd_T83 l0 x8_1).f0),.int .i64 ((rd_T83 l0 x8_1).f1),.int .i64 ((rd_T83 l0 x8_1).f2),.int .i64 ((rd_T83 l0 x8_1).f3),.string (⟨#[]⟩:ByteArray)]) ?_ 4 _ rfl;(with_reducible repeat (first|refine blk_drewN ?_ _|refine blk_drew ?_|refine blk_alloc ?_ _));refine blk_put (cs:=#[.int .i64 ((rd_T83 l0 x8_1).f0),.int .i64 ((rd_T83 l0 x8_1).f1),.int .i64 ((rd_T83 l0 x8_1).f2),.int .i64 0,.string (⟨#[]⟩:ByteArray)]) ?_ 3 _ rfl;(with_reducible repeat (first|refine blk_drewN ?_ _|refine blk_drew ?_|refine blk_alloc ?_ _));refine blk_put (cs:=#[.int .i64 ((rd_T83 l0 x8_1).f0),.int .i64 ((rd_T83 l0 x8_1).f1),.int .i64 0,.int .i64 0,.string (⟨#[]⟩:ByteArray)]) ?_ 2 _ rfl;(with_reducible repeat (first|refine blk_drewN ?_ _|refine blk_drew ?_|refine blk_alloc ?_ _));refine blk_put (cs:=#[.int .i64 ((rd_T83 l0 x8_1).f0),.int .i64 0,.int .i64 0,.int .i64 0,.string (⟨#[]⟩:ByteArray)]) ?_ 1 _ rfl;(with_reducible repeat (first|refine blk_drewN ?_ _|refine blk_drew ?_|refine blk_alloc ?_ _));refine blk_put (cs:=#[.int .i64 0,.int .i64 0,.int .i64 0,.int .i64 0,.string (⟨#[]⟩:ByteArray)]) ?_ 0 _ rfl;(with_reducible repeat (first|refine blk_drewN ?_ _|refine blk_drew ?_|refine blk_alloc ?_ _));exact BK112.out⟩;have n1_:Aside0 (Below w.heap.size w (((((w35.setCell ⟨gb112,0,none⟩ (.int .i64 ((rd_T83 l0 x8_1).f0))).setCell ⟨gb112,1,none⟩ (.int .i64 ((rd_T83 l0 x8_1).f1))).setCell ⟨gb112,2,none⟩ (.int .i64 ((rd_T83 l0 x8_1).f2))).setCell ⟨gb112,3,none⟩ (.int .i64 ((rd_T83 l0 x8_1).f3))).setCell ⟨gb112,4,none⟩ (.string ((rd_T83 l0 x8_1).f4)))):=⟨by repeat (first|(with_reducible first|exact HB.out|apply below_alloc|apply pw_below_drewN|apply below_drew1|refine below_set ?_ GE112.out)|exact HB.out)⟩
              (try clear BK112)
              (try clear HB)
              generalize (((((w35.setCell ⟨gb112,0,none⟩ (.int .i64 ((rd_T83 l0 x8_1).f0))).setCell ⟨gb112,1,none⟩ (.int .i64 ((rd_T83 l0 x8_1).f1))).setCell ⟨gb112,2,none⟩ (.int .i64 ((rd_T83 l0 x8_1).f2))).setCell ⟨gb112,3,none⟩ (.int .i64 ((rd_T83 l0 x8_1).f3))).setCell ⟨gb112,4,none⟩ (.string ((rd_T83 l0 x8_1).f4)))=w37 at n0_ n1_ ⊢;have BK112:=n0_;have HB:=n1_;clear n0_ n1_;have n0_:=Aside0.mk (blk_drew BK112.out);have n1_:=Aside0.mk (below_drew1 HB.out);clear BK112;clear HB;have BK112:=n0_;have HB:=n1_;clear n0_ n1_;refine start_ (n:=13) (S:=fun w'=>w'.cell? ⟨gb112,0,none⟩=some (.int .i64 ((rd_T83 l0 x8_1).f0))∧w'.cell? ⟨gb112,1,none⟩=some (.int .i64 ((rd_T83 l0 x8_1).f1))∧w'.cell? ⟨gb112,2,none⟩=some (.int .i64 ((rd_T83 l0 x8_1).f2))∧w'.cell? ⟨gb112,3,none⟩=some (.int .i64 ((rd_T83 l0 x8_1).f3))∧w'.cell? ⟨gb112,4,none⟩=some (.string ((rd_T83 l0 x8_1).f4))) (ds:=[]) #[false,false,false,false,false,false,false,false,false,false,false,false,false] (by kernel_rfl) rfl rfl ⟨(blk_cell BK112.out 0).trans rfl,(blk_cell BK112.out 1).trans rfl,(blk_cell BK112.out 2).trans rfl,(blk_cell BK112.out 3).trans rfl,(blk_cell BK112.out 4).trans rfl⟩ (fun hHeld=>?_);refine with_tabW route_Print.tab13 route_Print.bits13 (fun HT_ HW_=>?_);generalize w37.drew=w38 at BK112 HB hHeld ⊢;refine pure_ (i:=0) (N:=some 42) (v:=?_) (a':=?_) #[true,false,false,false,false,false,false,false,false,false,false,false,false] rfl rfl (any_of HT_.out (by kernel_rfl)) (fun _ _ _ h=>h) (Or.inl ⟨by rfl,?_⟩) ?_ ?_;rotate_left
              ·intro w';go_simp;with_reducible rfl
              rotate_left
              ·simp only [Act.put,List.setIfInBounds_toArray,List.set_cons_zero,List.set_cons_succ,i64_w,i32_w];rfl
              refine pure_ (i:=1) (N:=some 43) (v:=?_) (a':=?_) #[true,true,false,false,false,false,false,false,false,false,false,false,false] rfl rfl (any_of HT_.out (by kernel_rfl)) (fun _ _ _ h=>h) (Or.inl ⟨by rfl,?_⟩) ?_ ?_;rotate_left
              ·intro w';go_simp;with_reducible rfl
              rotate_left
              ·simp only [Act.put,List.setIfInBounds_toArray,List.set_cons_zero,List.set_cons_succ,i64_w,i32_w];rfl
              refine pure_ (i:=6) (N:=some 48) (v:=?_) (a':=?_) #[true,true,false,false,false,false,true,false,false,false,false,false,false] rfl rfl (any_of HT_.out (by kernel_rfl)) (fun _ _ _ h=>h) (Or.inl ⟨by rfl,?_⟩) ?_ ?_;rotate_left
              ·intro w';go_simp;with_reducible rfl
              rotate_left
              ·simp only [Act.put,List.setIfInBounds_toArray,List.set_cons_zero,List.set_cons_succ,i64_w,i32_w];rfl
              refine take_ (i:=2) (N:=some 44) (v:=?_) (a':=?_) #[true,true,true,false,false,false,true,false,false,false,false,false,false] rfl rfl (take_ofW HT_.out HW_.out (by kernel_rfl)) (fun _ _ _ h=>h) (Or.inl ⟨by rfl,?_⟩) hHeld ?_ ?_;rotate_left
              ·rintro w' ⟨s0,s1,s2,s3,s4⟩;go_simp;with_reducible rfl
              rotate_left
              ·simp only [Act.put,List.setIfInBounds_toArray,List.set_cons_zero,List.set_cons_succ,i64_w,i32_w];rfl
              refine take_ (i:=7) (N:=some 49) (v:=?_) (a':=?_) #[true,true,true,false,false,false,true,true,false,false,false,false,false] rfl rfl (take_ofW HT_.out HW_.out (by kernel_rfl)) (fun _ _ _ h=>h) (Or.inl ⟨by rfl,?_⟩) hHeld ?_ ?_;rotate_left
              ·rintro w' ⟨s0,s1,s2,s3,s4⟩;go_simp;with_reducible rfl
              rotate_left
              ·simp only [Act.put,List.setIfInBounds_toArray,List.set_cons_zero,List.set_cons_succ,i64_w,i32_w];rfl
              refine one_ (i:=3) (N:=some 45) #[true,true,true,true,false,false,true,true,false,false,false,false,false] rfl rfl (one_of HT_.out (by kernel_rfl)) (by decide) (fun K hK=>?_);refine goes_ Tryd.func69 (by kernel_rfl) rfl #[.int .i64 ((rd_T83 l0 x8_1).f2),.int .i64 0] (by rfl) rfl rfl (by (try simp only [List.map_toArray,List.map_cons,List.map_nil]);first|done|rfl|(simp only [List.length_drop,List.length_take];rfl)) ?_;with_reducible refine (route_end.calls ((rd_T83 l0 x8_1).f2) 0 t116 _ A28.out).mono ?_;rintro e w39 ⟨rfl,hb⟩;refine ⟨_,rfl,?_⟩;have n0_:=Aside0.mk (blk_below (g:=gb112) (o:=.cells #[.int .i64 ((rd_T83 l0 x8_1).f0),.int .i64 ((rd_T83 l0 x8_1).f1),.int .i64 ((rd_T83 l0 x8_1).f2),.int .i64 ((rd_T83 l0 x8_1).f3),.string ((rd_T83 l0 x8_1).f4)] 83 (0,0)) (by (with_reducible repeat (first|refine blk_drewN ?_ _|refine blk_drew ?_|refine blk_alloc ?_ _));exact BK112.out) hb);have n1_:=Aside0.mk (below_step (by repeat (first|(with_reducible first|exact HB.out|apply below_alloc|apply pw_below_drewN|apply below_drew1|refine below_set ?_ GE112.out)|exact HB.out)) hb);clear BK112;clear HB;have BK112:=n0_;have HB:=n1_;clear n0_ n1_
              (try clear hb)
              (try clear hb2)
              (try clear hk)
              (try clear hi)
              refine hK.out _ _ ⟨(blk_cell BK112.out 0).trans rfl,(blk_cell BK112.out 1).trans rfl,(blk_cell BK112.out 2).trans rfl,(blk_cell BK112.out 3).trans rfl,(blk_cell BK112.out 4).trans rfl⟩ (fun hHeld=>?_);clear hK K;refine norm_ (a':=?_) ?_ ?_;rotate_left
              ·show Act.put _ (some 45) _=_;simp only [Act.put,List.setIfInBounds_toArray,List.set_cons_zero,List.set_cons_succ,i64_w,i32_w];rfl
              refine pure_ (i:=4) (N:=some 46) (v:=?_) (a':=?_) #[true,true,true,true,true,false,true,true,false,false,false,false,false] rfl rfl (any_of HT_.out (by kernel_rfl)) (fun _ _ _ h=>h) (Or.inl ⟨by rfl,?_⟩) ?_ ?_;rotate_left
              ·intro w';go_simp;with_reducible rfl
              rotate_left
              ·simp only [Act.put,List.setIfInBounds_toArray,List.set_cons_zero,List.set_cons_succ,i64_w,i32_w];rfl
              refine pure_ (i:=5) (N:=some 47) (v:=?_) (a':=?_) #[true,true,true,true,true,true,true,true,false,false,false,false,false] rfl rfl (any_of HT_.out (by kernel_rfl)) (fun _ _ _ h=>h) (Or.inl ⟨by rfl,?_⟩) ?_ ?_;rotate_left
              ·intro w';go_simp;with_reducible rfl
              rotate_left
              ·simp only [Act.put,List.setIfInBounds_toArray,List.set_cons_zero,List.set_cons_succ,i64_w,i32_w];rfl
              refine one_ (i:=8) (N:=some 50) #[true,true,true,true,true,true,true,true,true,false,false,false,false] rfl rfl (one_of HT_.out (by kernel_rfl)) (by decide) (fun K hK=>?_);refine goes_ Tryd.func69 (by kernel_rfl) rfl #[.int .i64 ((rd_T83 l0 x8_1).f3),.int .i64 9223372036854775807] (by rfl) rfl rfl (by (try simp only [List.map_toArray,List.map_cons,List.map_nil]);first|done|rfl|(simp only [List.length_drop,List.length_take];rfl)) ?_;with_reducible refine (route_end.calls ((rd_T83 l0 x8_1).f3) 9223372036854775807 t117 _ A31.out).mono ?_;rintro e w40 ⟨rfl,hb⟩;refine ⟨_,rfl,?_⟩;have n0_:=Aside0.mk (blk_below (g:=gb112) (o:=.cells #[.int .i64 ((rd_T83 l0 x8_1).f0),.int .i64 ((rd_T83 l0 x8_1).f1),.int .i64 ((rd_T83 l0 x8_1).f2),.int .i64 ((rd_T83 l0 x8_1).f3),.string ((rd_T83 l0 x8_1).f4)] 83 (0,0)) (by (with_reducible repeat (first|refine blk_drewN ?_ _|refine blk_drew ?_|refine blk_alloc ?_ _));exact BK112.out) hb);have n1_:=Aside0.mk (below_step (by repeat (first|(with_reducible first|exact HB.out|apply below_alloc|apply pw_below_drewN|apply below_drew1|refine below_set ?_ GE112.out)|exact HB.out)) hb);clear BK112;clear HB;have BK112:=n0_;have HB:=n1_;clear n0_ n1_
              (try clear hb)
              (try clear hb2)
              (try clear hk)
              (try clear hi)
              refine hK.out _ _ ⟨(blk_cell BK112.out 0).trans rfl,(blk_cell BK112.out 1).trans rfl,(blk_cell BK112.out 2).trans rfl,(blk_cell BK112.out 3).trans rfl,(blk_cell BK112.out 4).trans rfl⟩ (fun hHeld=>?_);clear hK K;refine norm_ (a':=?_) ?_ ?_;rotate_left
              ·show Act.put _ (some 50) _=_;simp only [Act.put,List.setIfInBounds_toArray,List.set_cons_zero,List.set_cons_succ,i64_w,i32_w];rfl
              refine pure_ (i:=9) (N:=some 51) (v:=?_) (a':=?_) #[true,true,true,true,true,true,true,true,true,true,false,false,false] rfl rfl (any_of HT_.out (by kernel_rfl)) (fun _ _ _ h=>h) (Or.inl ⟨by rfl,?_⟩) ?_ ?_;rotate_left
              ·intro w';go_simp;with_reducible rfl
              rotate_left
              ·simp only [Act.put,List.setIfInBounds_toArray,List.set_cons_zero,List.set_cons_succ,i64_w,i32_w];rfl
              refine pure_ (i:=10) (N:=some 52) (v:=?_) (a':=?_) #[true,true,true,true,true,true,true,true,true,true,true,false,false] rfl rfl (any_of HT_.out (by kernel_rfl)) (fun _ _ _ h=>h) (Or.inl ⟨by rfl,?_⟩) ?_ ?_;rotate_left
              ·intro w';go_simp;with_reducible rfl
              rotate_left
              ·simp only [Act.put,List.setIfInBounds_toArray,List.set_cons_zero,List.set_cons_succ,i64_w,i32_w];rfl
              refine pure_ (i:=11) (N:=some 53) (v:=?_) (a':=?_) #[true,true,true,true,true,true,true,true,true,true,true,true,false] rfl rfl (any_of HT_.out (by kernel_rfl)) (fun _ _ _ h=>h) (Or.inl ⟨by rfl,?_⟩) ?_ ?_;rotate_left
              ·intro w';go_simp;with_reducible rfl
              rotate_left
              ·simp only [Act.put,List.setIfInBounds_toArray,List.set_cons_zero,List.set_cons_succ,i64_w,i32_w];rfl
              refine pure_ (i:=12) (N:=some 3) (v:=?_) (a':=?_) #[true,true,true,true,true,true,true,true,true,true,true,true,true] rfl rfl (any_of HT_.out (by kernel_rfl)) (fun _ _ _ h=>h) (Or.inl ⟨by rfl,?_⟩) ?_ ?_;rotate_left
              ·intro w';go_simp;with_reducible rfl
              rotate_left
              ·simp only [Act.put,List.setIfInBounds_toArray,List.set_cons_zero,List.set_cons_succ,i64_w,i32_w];rfl
              refine done_ (done_of HT_.out (by kernel_rfl)) ?_;(try go_wp2);go_roundg k1
              case measure=>have:=HK1.out;omega
              case rel=>exact ⟨(x3_1++(((((⟨#[91]⟩:ByteArray)++t116)++(⟨#[58]⟩:ByteArray))++t117)++(⟨#[93]⟩:ByteArray))),(wrap64 (x8_1+1)),(by first|rfl|(simp;done)|(simp [*];done)),(by first|rfl|(simp;done)|(simp [*];done)),H',⟨by have:=HK1.out;omega⟩,⟨by repeat (first|(with_reducible first|exact HB.out|apply below_alloc|apply pw_below_drewN|apply below_drew1|refine below_set ?_ GE112.out)|exact HB.out)⟩⟩
             ·rw [if_neg c34] at H;exact absurd H (by simp)
            ·rw [if_neg c33] at H;exact absurd H (by simp)
           ·rw [if_neg c32] at H;exact absurd H (by simp)
          ·rw [if_neg c30] at H;exact absurd H (by simp)
         ·rw [if_neg c29] at H;exact absurd H (by simp)
        ·rw [if_neg c27] at H;have c27b0:(((rd_T83 l0 x8_1).f0) == 2)=false:=beq_eq_false_iff_ne.mpr c27;have c27b1:(((rd_T83 l0 x8_1).f0) != 2)=true:=bne_iff_ne.mpr c27;by_cases c41:((rd_T83 l0 x8_1).f0)=3
         ·rw [if_pos c41] at H;have c41b0:(((rd_T83 l0 x8_1).f0) == 3)=true:=beq_iff_eq.mpr c41;have c41b1:(((rd_T83 l0 x8_1).f0) != 3)=false:=bne_eq_false_iff_eq.mpr c41;clear c41;by_cases c42:x3_1.size+3≤9223372036854775807
          ·rw [if_pos c42] at H;have c42b0:=eq_true c42;have c42b1:decide (x3_1.size+3≤9223372036854775807)=true:=decide_eq_true c42;(try have c42b2:(9223372036854775807 < x3_1.size+3)=False:=eq_false (Nat.not_lt.2 c42));have H':=Aside0.mk H;clear H;have p111:0≤(x8_1:Int):=of_decide_eq_true (by assumption);have q111:x8_1 < (l0.length:Int):=of_decide_eq_true (by assumption);obtain ⟨ad111,e111,hx111_0,hx111_1,hx111_2,hx111_3,hx111_4⟩:=at_T83 HR0.out x8_1 p111 q111;cases e111;replace hx111_0:=(HB.out.cell (World.block_lt_of_cell? w _ hx111_0)).trans hx111_0;replace hx111_1:=(HB.out.cell (World.block_lt_of_cell? w _ hx111_1)).trans hx111_1;replace hx111_2:=(HB.out.cell (World.block_lt_of_cell? w _ hx111_2)).trans hx111_2;replace hx111_3:=(HB.out.cell (World.block_lt_of_cell? w _ hx111_3)).trans hx111_3;replace hx111_4:=(HB.out.cell (World.block_lt_of_cell? w _ hx111_4)).trans hx111_4;replace p111:=eq_true p111;replace q111:=eq_true q111;go_wp2_with (first|((with_reducible refine gate_dst (N:=5) rfl ?_);refine box_event ?hg (N:=5) ?hd (cs:=#[.int .i64 0,.int .i64 0,.int .i64 0,.int .i64 0,.string (⟨#[]⟩:ByteArray)]) (t:=83) ?hr ?_;(case hd=>rfl);(case hg=>rfl);(case hr=>first|(go_simp;done)|(go_simp;rfl));intro gb112 hg w43 hbox hb;have n0_:=Aside0.mk (below_step (bw HB.out) hb);have n1_:=Aside0.mk (hbox);have n2_:=Aside0.mk ((by rw [hg];exact (below_size (bw HB.out)):w.heap.size≤gb112));have n3_:=Aside0.mk ((by rw [hg];exact (below_size (bw HB.out)):w.heap.size≤gb112));clear HB;have HB:=n0_;have BK112:=n1_;have GW112:=n2_;have GE112:=n3_;clear n0_ n1_ n2_ n3_;clear hb hbox hg;obtain ⟨hcz44_0,hcz44_1,hcz44_2,hcz44_3,hcz44_4⟩:=cells5 BK112.out;obtain ⟨hfz44_0,hfz44_1,hfz44_2,hfz44_3,hfz44_4⟩:=frozen5 BK112.out));go_roundg k1
           case measure=>have:=HK1.out;omega
           case rel=>exact ⟨(x3_1++(⟨#[91,42,93]⟩:ByteArray)),(wrap64 (x8_1+1)),(by first|rfl|(simp;done)|(simp [*];done)),(by first|rfl|(simp;done)|(simp [*];done)),H',⟨by have:=HK1.out;omega⟩,⟨by repeat (first|(with_reducible first|exact HB.out|apply below_alloc|apply pw_below_drewN|apply below_drew1|refine below_set ?_ GE112.out)|exact HB.out)⟩⟩
          ·rw [if_neg c42] at H;exact absurd H (by simp)
         ·rw [if_neg c41] at H;have c41b0:(((rd_T83 l0 x8_1).f0) == 3)=false:=beq_eq_false_iff_ne.mpr c41;have c41b1:(((rd_T83 l0 x8_1).f0) != 3)=true:=bne_iff_ne.mpr c41;by_cases c45:((rd_T83 l0 x8_1).f0)=4
          ·rw [if_pos c45] at H;have c45b0:(((rd_T83 l0 x8_1).f0) == 4)=true:=beq_iff_eq.mpr c45;have c45b1:(((rd_T83 l0 x8_1).f0) != 4)=false:=bne_eq_false_iff_eq.mpr c45;clear c45;by_cases c46:x3_1.size+2≤9223372036854775807
           ·rw [if_pos c46] at H;have c46b0:=eq_true c46;have c46b1:decide (x3_1.size+2≤9223372036854775807)=true:=decide_eq_true c46;(try have c46b2:(9223372036854775807 < x3_1.size+2)=False:=eq_false (Nat.not_lt.2 c46));have H':=Aside0.mk H;clear H;have p111:0≤(x8_1:Int):=of_decide_eq_true (by assumption);have q111:x8_1 < (l0.length:Int):=of_decide_eq_true (by assumption);obtain ⟨ad111,e111,hx111_0,hx111_1,hx111_2,hx111_3,hx111_4⟩:=at_T83 HR0.out x8_1 p111 q111;cases e111;replace hx111_0:=(HB.out.cell (World.block_lt_of_cell? w _ hx111_0)).trans hx111_0;replace hx111_1:=(HB.out.cell (World.block_lt_of_cell? w _ hx111_1)).trans hx111_1;replace hx111_2:=(HB.out.cell (World.block_lt_of_cell? w _ hx111_2)).trans hx111_2;replace hx111_3:=(HB.out.cell (World.block_lt_of_cell? w _ hx111_3)).trans hx111_3;replace hx111_4:=(HB.out.cell (World.block_lt_of_cell? w _ hx111_4)).trans hx111_4;replace p111:=eq_true p111;replace q111:=eq_true q111;go_wp2_with (first|((with_reducible refine gate_dst (N:=5) rfl ?_);refine box_event ?hg (N:=5) ?hd (cs:=#[.int .i64 0,.int .i64 0,.int .i64 0,.int .i64 0,.string (⟨#[]⟩:ByteArray)]) (t:=83) ?hr ?_;(case hd=>rfl);(case hg=>rfl);(case hr=>first|(go_simp;done)|(go_simp;rfl));intro gb112 hg w47 hbox hb;have n0_:=Aside0.mk (below_step (bw HB.out) hb);have n1_:=Aside0.mk (hbox);have n2_:=Aside0.mk ((by rw [hg];exact (below_size (bw HB.out)):w.heap.size≤gb112));have n3_:=Aside0.mk ((by rw [hg];exact (below_size (bw HB.out)):w.heap.size≤gb112));clear HB;have HB:=n0_;have BK112:=n1_;have GW112:=n2_;have GE112:=n3_;clear n0_ n1_ n2_ n3_;clear hb hbox hg;obtain ⟨hcz48_0,hcz48_1,hcz48_2,hcz48_3,hcz48_4⟩:=cells5 BK112.out;obtain ⟨hfz48_0,hfz48_1,hfz48_2,hfz48_3,hfz48_4⟩:=frozen5 BK112.out));go_roundg k1
            case measure=>have:=HK1.out;omega
            case rel=>exact ⟨(x3_1++(⟨#[46,46]⟩:ByteArray)),(wrap64 (x8_1+1)),(by first|rfl|(simp;done)|(simp [*];done)),(by first|rfl|(simp;done)|(simp [*];done)),H',⟨by have:=HK1.out;omega⟩,⟨by repeat (first|(with_reducible first|exact HB.out|apply below_alloc|apply pw_below_drewN|apply below_drew1|refine below_set ?_ GE112.out)|exact HB.out)⟩⟩
           ·rw [if_neg c46] at H;exact absurd H (by simp)
          ·rw [if_neg c45] at H;have c45b0:(((rd_T83 l0 x8_1).f0) == 4)=false:=beq_eq_false_iff_ne.mpr c45;have c45b1:(((rd_T83 l0 x8_1).f0) != 4)=true:=bne_iff_ne.mpr c45;by_cases c49:((rd_T83 l0 x8_1).f0)=5
           ·rw [if_pos c49] at H;have c49b0:(((rd_T83 l0 x8_1).f0) == 5)=true:=beq_iff_eq.mpr c49;have c49b1:(((rd_T83 l0 x8_1).f0) != 5)=false:=bne_eq_false_iff_eq.mpr c49;clear c49;by_cases c50:3+((rd_T83 l0 x8_1).f4).size≤9223372036854775807
            ·rw [if_pos c50] at H;have c50b0:=eq_true c50;have c50b1:decide (3+((rd_T83 l0 x8_1).f4).size≤9223372036854775807)=true:=decide_eq_true c50;(try have c50b2:(9223372036854775807 < 3+((rd_T83 l0 x8_1).f4).size)=False:=eq_false (Nat.not_lt.2 c50));by_cases c51:((⟨#[91,63,40]⟩:ByteArray)++((rd_T83 l0 x8_1).f4)).size+2≤9223372036854775807
             ·rw [if_pos c51] at H;have c51b0:=eq_true c51;have c51b1:decide (((⟨#[91,63,40]⟩:ByteArray)++((rd_T83 l0 x8_1).f4)).size+2≤9223372036854775807)=true:=decide_eq_true c51;(try have c51b2:(9223372036854775807 < ((⟨#[91,63,40]⟩:ByteArray)++((rd_T83 l0 x8_1).f4)).size+2)=False:=eq_false (Nat.not_lt.2 c51));(try have c51b3:(9223372036854775807 < 3+((rd_T83 l0 x8_1).f4).size+2)=False:=eq_false (Nat.not_lt.2 (by have h_:=c51;simp only [ByteArray.size_append] at h_;exact h_)));by_cases c52:x3_1.size+(((⟨#[91,63,40]⟩:ByteArray)++((rd_T83 l0 x8_1).f4))++(⟨#[41,93]⟩:ByteArray)).size≤9223372036854775807
              ·rw [if_pos c52] at H;have c52b0:=eq_true c52;have c52b1:decide (x3_1.size+(((⟨#[91,63,40]⟩:ByteArray)++((rd_T83 l0 x8_1).f4))++(⟨#[41,93]⟩:ByteArray)).size≤9223372036854775807)=true:=decide_eq_true c52;(try have c52b2:(9223372036854775807 < x3_1.size+(((⟨#[91,63,40]⟩:ByteArray)++((rd_T83 l0 x8_1).f4))++(⟨#[41,93]⟩:ByteArray)).size)=False:=eq_false (Nat.not_lt.2 c52));(try have c52b3:(9223372036854775807 < x3_1.size+(3+((rd_T83 l0 x8_1).f4).size+2))=False:=eq_false (Nat.not_lt.2 (by have h_:=c52;simp only [ByteArray.size_append] at h_;exact h_)));have H':=Aside0.mk H;clear H;have p111:0≤(x8_1:Int):=of_decide_eq_true (by assumption);have q111:x8_1 < (l0.length:Int):=of_decide_eq_true (by assumption);obtain ⟨ad111,e111,hx111_0,hx111_1,hx111_2,hx111_3,hx111_4⟩:=at_T83 HR0.out x8_1 p111 q111;cases e111;replace hx111_0:=(HB.out.cell (World.block_lt_of_cell? w _ hx111_0)).trans hx111_0;replace hx111_1:=(HB.out.cell (World.block_lt_of_cell? w _ hx111_1)).trans hx111_1;replace hx111_2:=(HB.out.cell (World.block_lt_of_cell? w _ hx111_2)).trans hx111_2;replace hx111_3:=(HB.out.cell (World.block_lt_of_cell? w _ hx111_3)).trans hx111_3;replace hx111_4:=(HB.out.cell (World.block_lt_of_cell? w _ hx111_4)).trans hx111_4;replace p111:=eq_true p111;replace q111:=eq_true q111;go_wp2_with (first|((with_reducible refine gate_dst (N:=5) rfl ?_);refine box_event ?hg (N:=5) ?hd (cs:=#[.int .i64 0,.int .i64 0,.int .i64 0,.int .i64 0,.string (⟨#[]⟩:ByteArray)]) (t:=83) ?hr ?_;(case hd=>rfl);(case hg=>rfl);(case hr=>first|(go_simp;done)|(go_simp;rfl));intro gb112 hg w53 hbox hb;have n0_:=Aside0.mk (below_step (bw HB.out) hb);have n1_:=Aside0.mk (hbox);have n2_:=Aside0.mk ((by rw [hg];exact (below_size (bw HB.out)):w.heap.size≤gb112));have n3_:=Aside0.mk ((by rw [hg];exact (below_size (bw HB.out)):w.heap.size≤gb112));clear HB;have HB:=n0_;have BK112:=n1_;have GW112:=n2_;have GE112:=n3_;clear n0_ n1_ n2_ n3_;clear hb hbox hg;obtain ⟨hcz54_0,hcz54_1,hcz54_2,hcz54_3,hcz54_4⟩:=cells5 BK112.out;obtain ⟨hfz54_0,hfz54_1,hfz54_2,hfz54_3,hfz54_4⟩:=frozen5 BK112.out));go_roundg k1
               case measure=>have:=HK1.out;omega
               case rel=>exact ⟨(x3_1++(((⟨#[91,63,40]⟩:ByteArray)++((rd_T83 l0 x8_1).f4))++(⟨#[41,93]⟩:ByteArray))),(wrap64 (x8_1+1)),(by first|rfl|(simp;done)|(simp [*];done)),(by first|rfl|(simp;done)|(simp [*];done)),H',⟨by have:=HK1.out;omega⟩,⟨by repeat (first|(with_reducible first|exact HB.out|apply below_alloc|apply pw_below_drewN|apply below_drew1|refine below_set ?_ GE112.out)|exact HB.out)⟩⟩
              ·rw [if_neg c52] at H;exact absurd H (by simp)
             ·rw [if_neg c51] at H;exact absurd H (by simp)
            ·rw [if_neg c50] at H;exact absurd H (by simp)
           ·rw [if_neg c49] at H;have c49b0:(((rd_T83 l0 x8_1).f0) == 5)=false:=beq_eq_false_iff_ne.mpr c49;have c49b1:(((rd_T83 l0 x8_1).f0) != 5)=true:=bne_iff_ne.mpr c49;have H':=Aside0.mk H;clear H;have p111:0≤(x8_1:Int):=of_decide_eq_true (by assumption);have q111:x8_1 < (l0.length:Int):=of_decide_eq_true (by assumption);obtain ⟨ad111,e111,hx111_0,hx111_1,hx111_2,hx111_3,hx111_4⟩:=at_T83 HR0.out x8_1 p111 q111;cases e111;replace hx111_0:=(HB.out.cell (World.block_lt_of_cell? w _ hx111_0)).trans hx111_0;replace hx111_1:=(HB.out.cell (World.block_lt_of_cell? w _ hx111_1)).trans hx111_1;replace hx111_2:=(HB.out.cell (World.block_lt_of_cell? w _ hx111_2)).trans hx111_2;replace hx111_3:=(HB.out.cell (World.block_lt_of_cell? w _ hx111_3)).trans hx111_3;replace hx111_4:=(HB.out.cell (World.block_lt_of_cell? w _ hx111_4)).trans hx111_4;replace p111:=eq_true p111;replace q111:=eq_true q111;go_wp2_with (first|((with_reducible refine gate_dst (N:=5) rfl ?_);refine box_event ?hg (N:=5) ?hd (cs:=#[.int .i64 0,.int .i64 0,.int .i64 0,.int .i64 0,.string (⟨#[]⟩:ByteArray)]) (t:=83) ?hr ?_;(case hd=>rfl);(case hg=>rfl);(case hr=>first|(go_simp;done)|(go_simp;rfl));intro gb112 hg w55 hbox hb;have n0_:=Aside0.mk (below_step (bw HB.out) hb);have n1_:=Aside0.mk (hbox);have n2_:=Aside0.mk ((by rw [hg];exact (below_size (bw HB.out)):w.heap.size≤gb112));have n3_:=Aside0.mk ((by rw [hg];exact (below_size (bw HB.out)):w.heap.size≤gb112));clear HB;have HB:=n0_;have BK112:=n1_;have GW112:=n2_;have GE112:=n3_;clear n0_ n1_ n2_ n3_;clear hb hbox hg;obtain ⟨hcz56_0,hcz56_1,hcz56_2,hcz56_3,hcz56_4⟩:=cells5 BK112.out;obtain ⟨hfz56_0,hfz56_1,hfz56_2,hfz56_3,hfz56_4⟩:=frozen5 BK112.out));go_roundg k1
            case measure=>have:=HK1.out;omega
            case rel=>exact ⟨(x3_1),(wrap64 (x8_1+1)),(by first|rfl|(simp;done)|(simp [*];done)),(by first|rfl|(simp;done)|(simp [*];done)),H',⟨by have:=HK1.out;omega⟩,⟨by repeat (first|(with_reducible first|exact HB.out|apply below_alloc|apply pw_below_drewN|apply below_drew1|refine below_set ?_ GE112.out)|exact HB.out)⟩⟩
     ·rw [if_neg c4] at H;exact absurd H (by simp)
    ·rw [if_neg c3] at H;exact absurd H (by simp)
   ·rw [if_neg c2] at H;have c2b0:decide (x8_1 < (l0.length:Int))=false:=decide_eq_false c2;clear c2;obtain rfl:=Option.some.inj H;go_wp2;go_ret;exact ⟨by first|rfl|(simp [errW_none,errW_some] <;> rfl)|(simp [*,errW_none,errW_some] <;> rfl),bw HB.out⟩
def placketlaw16_Short.l0:Nat→List (S83)→List (S83)→Int→Int→Option (Bool)
 | 0,_,_,_,_=>none
 | k+1,x0,x5,x6,x7=>if x7 < x6 then (if 0≤x7 then (if x7 < (x5.length:Int) then (if (((rd_T83 x5 x7).f4).size:Int) > 400 then (some false) else (placketlaw16_Short.l0 k x0 x5 x6 (wrap64 (x7+1)))) else (none)) else (none)) else (some (decide ((x0.length:Int)≤60)))
def placketlaw16_Short.f (k:Nat) (l0:List (S83)):Option (Bool):=placketlaw16_Short.l0 k l0 l0 (l0.length:Int) 0
set_option maxHeartbeats 8000000 in
set_option maxRecDepth 100000 in
theorem placketlaw16_Short.calls (k:Nat) (A0:Option Addr) (c0:Nat) (l0:List (S83)) (r:Bool) (w:World) (hr0:Kd.C k83 w A0 l0.length l0) (hc0:l0.length≤c0) (h:placketlaw16_Short.f k l0=some r) :
  Calls Tryd.prog 33 #[.slice A0 l0.length c0] w fun e w'=>e = .returned (.bool r)∧Below w.heap.size w w':=by
 have hu83:=Tryd.underlying83;have HR0:=Aside0.mk hr0;have HC0:=Aside0.mk hc0;clear hr0 hc0;have HB:=Aside0.mk (Below.refl w.heap.size w);have H:(placketlaw16_Short.l0 k l0 l0 (l0.length:Int) 0)=some r:=h;clear h;have H':=Aside0.mk H;clear H;(go_enter Tryd.func33,Tryd.ntmps33);go_wp2;go_loopg [7] k (fun kq v7 w'=>∃ (x7_1:Int),v7 = .int .i64 x7_1∧Aside0 (placketlaw16_Short.l0 kq l0 l0 (l0.length:Int) x7_1=some r)∧Aside0 (kq≤k)∧Aside0 (Below w.heap.size w w'))
 case atStart=>exact ⟨(0),(by first|rfl|(simp;done)|(simp [*];done)),H',⟨Nat.le_refl _⟩,⟨bw HB.out⟩⟩
 case round=>
  clear H';obtain ⟨x7_1,rfl,HA,HK1,HB⟩:=hrel;cases gk with
  | zero=>exact absurd HA.out (by simp [placketlaw16_Short.l0])
  | succ k1=>
   have H:=HA.out;clear HA;simp only [placketlaw16_Short.l0] at H;by_cases c2:x7_1 < (l0.length:Int)
   ·rw [if_pos c2] at H;have c2b0:decide (x7_1 < (l0.length:Int))=true:=decide_eq_true c2;clear c2;by_cases c3:0≤x7_1
    ·rw [if_pos c3] at H;have c3b0:decide (0≤x7_1)=true:=decide_eq_true c3;clear c3;by_cases c4:x7_1 < (l0.length:Int)
     ·rw [if_pos c4] at H;have c4b0:decide (x7_1 < (l0.length:Int))=true:=decide_eq_true c4;clear c4;by_cases c5:(((rd_T83 l0 x7_1).f4).size:Int) > 400
      ·rw [if_pos c5] at H;have c5b0:decide (400 < (((rd_T83 l0 x7_1).f4).size:Int))=true:=decide_eq_true c5;have c5b1:decide (400 < ((rd_T83 l0 x7_1).f4).size)=true:=decide_eq_true (by omega);clear c5;obtain rfl:=Option.some.inj H;have p118:0≤(x7_1:Int):=of_decide_eq_true (by assumption);have q118:x7_1 < (l0.length:Int):=of_decide_eq_true (by assumption);obtain ⟨ad118,e118,hx118_0,hx118_1,hx118_2,hx118_3,hx118_4⟩:=at_T83 HR0.out x7_1 p118 q118;cases e118;replace hx118_0:=(HB.out.cell (World.block_lt_of_cell? w _ hx118_0)).trans hx118_0;replace hx118_1:=(HB.out.cell (World.block_lt_of_cell? w _ hx118_1)).trans hx118_1;replace hx118_2:=(HB.out.cell (World.block_lt_of_cell? w _ hx118_2)).trans hx118_2;replace hx118_3:=(HB.out.cell (World.block_lt_of_cell? w _ hx118_3)).trans hx118_3;replace hx118_4:=(HB.out.cell (World.block_lt_of_cell? w _ hx118_4)).trans hx118_4;replace p118:=eq_true p118;replace q118:=eq_true q118;go_wp2_with (first|((with_reducible refine gate_dst (N:=4) rfl ?_);refine box_event ?hg (N:=4) ?hd (cs:=#[.int .i64 0,.int .i64 0,.int .i64 0,.int .i64 0,.string (⟨#[]⟩:ByteArray)]) (t:=83) ?hr ?_;(case hd=>rfl);(case hg=>rfl);(case hr=>first|(go_simp;done)|(go_simp;rfl));intro gb119 hg w6 hbox hb;have n0_:=Aside0.mk (below_step (bw HB.out) hb);have n1_:=Aside0.mk (hbox);have n2_:=Aside0.mk ((by rw [hg];exact (below_size (bw HB.out)):w.heap.size≤gb119));have n3_:=Aside0.mk ((by rw [hg];exact (below_size (bw HB.out)):w.heap.size≤gb119));clear HB;have HB:=n0_;have BK119:=n1_;have GW119:=n2_;have GE119:=n3_;clear n0_ n1_ n2_ n3_;clear hb hbox hg;obtain ⟨hcz7_0,hcz7_1,hcz7_2,hcz7_3,hcz7_4⟩:=cells5 BK119.out;obtain ⟨hfz7_0,hfz7_1,hfz7_2,hfz7_3,hfz7_4⟩:=frozen5 BK119.out));go_ret;exact ⟨by first|rfl|(simp [errW_none,errW_some] <;> rfl)|(simp [*,errW_none,errW_some] <;> rfl),by repeat (first|(with_reducible first|exact HB.out|apply below_alloc|apply pw_below_drewN|apply below_drew1|refine below_set ?_ GE119.out)|exact HB.out)⟩
      ·rw [if_neg c5] at H;have c5b0:decide (400 < (((rd_T83 l0 x7_1).f4).size:Int))=false:=decide_eq_false c5;have c5b1:decide (400 < ((rd_T83 l0 x7_1).f4).size)=false:=decide_eq_false (by omega);clear c5;have H':=Aside0.mk H;clear H;have p118:0≤(x7_1:Int):=of_decide_eq_true (by assumption);have q118:x7_1 < (l0.length:Int):=of_decide_eq_true (by assumption);obtain ⟨ad118,e118,hx118_0,hx118_1,hx118_2,hx118_3,hx118_4⟩:=at_T83 HR0.out x7_1 p118 q118;cases e118;replace hx118_0:=(HB.out.cell (World.block_lt_of_cell? w _ hx118_0)).trans hx118_0;replace hx118_1:=(HB.out.cell (World.block_lt_of_cell? w _ hx118_1)).trans hx118_1;replace hx118_2:=(HB.out.cell (World.block_lt_of_cell? w _ hx118_2)).trans hx118_2;replace hx118_3:=(HB.out.cell (World.block_lt_of_cell? w _ hx118_3)).trans hx118_3;replace hx118_4:=(HB.out.cell (World.block_lt_of_cell? w _ hx118_4)).trans hx118_4;replace p118:=eq_true p118;replace q118:=eq_true q118;go_wp2_with (first|((with_reducible refine gate_dst (N:=4) rfl ?_);refine box_event ?hg (N:=4) ?hd (cs:=#[.int .i64 0,.int .i64 0,.int .i64 0,.int .i64 0,.string (⟨#[]⟩:ByteArray)]) (t:=83) ?hr ?_;(case hd=>rfl);(case hg=>rfl);(case hr=>first|(go_simp;done)|(go_simp;rfl));intro gb119 hg w8 hbox hb;have n0_:=Aside0.mk (below_step (bw HB.out) hb);have n1_:=Aside0.mk (hbox);have n2_:=Aside0.mk ((by rw [hg];exact (below_size (bw HB.out)):w.heap.size≤gb119));have n3_:=Aside0.mk ((by rw [hg];exact (below_size (bw HB.out)):w.heap.size≤gb119));clear HB;have HB:=n0_;have BK119:=n1_;have GW119:=n2_;have GE119:=n3_;clear n0_ n1_ n2_ n3_;clear hb hbox hg;obtain ⟨hcz9_0,hcz9_1,hcz9_2,hcz9_3,hcz9_4⟩:=cells5 BK119.out;obtain ⟨hfz9_0,hfz9_1,hfz9_2,hfz9_3,hfz9_4⟩:=frozen5 BK119.out));go_roundg k1
       case measure=>have:=HK1.out;omega
       case rel=>exact ⟨(wrap64 (x7_1+1)),(by first|rfl|(simp;done)|(simp [*];done)),H',⟨by have:=HK1.out;omega⟩,⟨by repeat (first|(with_reducible first|exact HB.out|apply below_alloc|apply pw_below_drewN|apply below_drew1|refine below_set ?_ GE119.out)|exact HB.out)⟩⟩
     ·rw [if_neg c4] at H;exact absurd H (by simp)
    ·rw [if_neg c3] at H;exact absurd H (by simp)
   ·rw [if_neg c2] at H;have c2b0:decide (x7_1 < (l0.length:Int))=false:=decide_eq_false c2;clear c2;obtain rfl:=Option.some.inj H;go_wp2;go_ret;exact ⟨by first|rfl|(simp [errW_none,errW_some] <;> rfl)|(simp [*,errW_none,errW_some] <;> rfl),bw HB.out⟩
end Go.Proofs.YtkbjblhompkdkaaDoor.PB
namespace Go.Proofs.YtkbjblhompkdkaaDoor
open Go.RowKit Go.Proofs.YtkbjblhompkdkaaDoor.PA Go.Proofs.YtkbjblhompkdkaaDoor.PB Go.Proofs.YtkbjblhompkdkaaDoorW.PrintWords Go.Proofs.YtkbjblhompkdkaaDoorW.PrintLast
set_option linter.unusedVariables false
set_option linter.unusedSimpArgs false
attribute [local go_sem high] eqA83
def liveT:ByteArray:=⟨#[36,46,97,91,34,98,32,99,34,93,91,45,49,93,91,49,58,93,91,42,93,46,46,91,63,40,64,46,120,32,61,61,32,49,41,93]⟩
def liveP:ByteArray:=⟨#[36,46,97,91,34,98,32,99,34,93,91,45,49,93,91,49,58,93,91,42,93,46,46,91,63,40,64,32,46,32,120,32,61,61,32,49,41,93]⟩
def liveR:List Pure.Seg:=[⟨0,0,0,0,[97]⟩,⟨0,0,0,0,[98,32,99]⟩,⟨1,-1,0,0,[]⟩,⟨2,0,1,9223372036854775807,[]⟩,⟨3,0,0,0,[]⟩,⟨4,0,0,0,[]⟩,⟨5,0,0,0,[64,32,46,32,120,32,61,61,32,49]⟩]
def liveL:List S83:=liveR.map segS
theorem live_parse:Pure.parseC (bytesOf liveT) = .inl liveR:=by kernel_rfl
theorem live_print:route_Print.f 30 liveL=some liveP:=by kernel_rfl
theorem live_check:checkC liveL=none:=by kernel_rfl
theorem live_b1:balC (bytesOf ⟨#[40,32,97,32,41]⟩)=true:=by kernel_rfl
theorem live_b2:balC (bytesOf ⟨#[40,97,41]⟩)=false:=by kernel_rfl
set_option maxRecDepth 100000 in
set_option maxHeartbeats 8000000 in
theorem live16_calls (w:World) (hs:Signs w) :
  Calls Tryd.prog 30 #[] w fun e w'=>e = .returned (.bool true)∧Below w.heap.size w w':=by
 have HS:=Lib.hid hs;clear hs;(go_enter Tryd.func30,Tryd.ntmps30);(go_wp2_with fail);refine (parse_calls liveT w HS.out (by decide) (by decide)).mono ?_;rintro e w1 ⟨hpost,hb1⟩;rw [live_parse] at hpost;obtain ⟨A,c,rfl,hc,hC⟩:=hpost;have HB:=Lib.hid hb1;have HC:=Lib.hid (show Kd.C k83 w1 A 7 liveL from hC);have HCP:=Lib.hid (show 7≤c from hc);clear hb1 hC hc;rw [show liveR.length=7 from rfl];obtain ⟨ad,rfl,-,-,-,-,h64⟩:=at_T83 HC.out 6 (by decide) (by decide);obtain ⟨ad1,e1,h30,h31,h32,h33,h34⟩:=at_T83 HC.out 3 (by decide) (by decide);obtain rfl:=Option.some.inj e1;clear e1;rw [show rd_T83 liveL 6=⟨5,0,0,0,⟨#[64,32,46,32,120,32,61,61,32,49]⟩⟩ from by kernel_rfl] at h64;rw [show rd_T83 liveL 3=⟨2,0,1,9223372036854775807,⟨#[]⟩⟩ from by kernel_rfl] at h30 h31 h32 h33 h34;simp [Addr.add] at h64 h30 h31 h32 h33 h34;(go_wp2_with fail);refine (route_Print.calls 30 _ c liveL _ w1 HC.out HCP.out live_print).mono ?_;rintro e w2 ⟨rfl,hb2⟩;replace HC:=Lib.hid (Kd.C_below HC.out hb2);replace HB:=Lib.hid (below_then HB.out HB.out.size hb2);clear hb2 h64 h30 h31 h32 h33 h34;unfold liveP;(go_wp2_with fail);refine (check_calls _ c liveL w2 (HS.out.below HB.out (Nat.le_refl _)) HC.out HCP.out (by decide)).mono ?_;rw [live_check];rintro e w3 ⟨rfl,hb3⟩;replace HB:=Lib.hid (below_then HB.out HB.out.size hb3);clear hb3 HC;(go_wp2_with fail);refine (balanced_calls ⟨#[40,32,97,32,41]⟩ w3 (HS.out.below HB.out (Nat.le_refl _)) (by decide)).mono ?_;rw [live_b1];rintro e w4 ⟨rfl,hb4⟩;replace HB:=Lib.hid (below_then HB.out HB.out.size hb4);clear hb4;(go_wp2_with fail);refine (balanced_calls ⟨#[40,97,41]⟩ w4 (HS.out.below HB.out (Nat.le_refl _)) (by decide)).mono ?_;rw [live_b2];rintro e w5 ⟨rfl,hb5⟩;replace HB:=Lib.hid (below_then HB.out HB.out.size hb5);clear hb5;go_wp2;go_ret;exact ⟨rfl,HB.out⟩
end Go.Proofs.YtkbjblhompkdkaaDoor
namespace Go.Proofs.YtkbjblhompkdkaaDoor.Pure
set_option linter.unusedVariables false
set_option linter.unusedSimpArgs false
open Go.RowKit Go.Proofs.YtkbjblhompkdkaaDoor Go.Proofs.YtkbjblhompkdkaaDoor.PA Go.Proofs.YtkbjblhompkdkaaDoor.PB Go.Proofs.YtkbjblhompkdkaaDoorW.PrintWords Go.Proofs.YtkbjblhompkdkaaDoorW.PrintLast
def endP (n but:Int):List Int:=if n=but then [] else digL n
def segP (x:Seg):List Int:=
 if x.kind=0 then (if nameS x.text=true then 46 :: x.text else 91 :: (quoteL x.text++[93]))
 else if x.kind=1 then 91 :: (digL x.n++[93])
 else if x.kind=2 then 91 :: (endP x.lo 0++58 :: (endP x.hi 9223372036854775807++[93]))
 else if x.kind=3 then [91,42,93]
 else if x.kind=4 then [46,46]
 else if x.kind=5 then 91 :: 63 :: 40 :: (x.text++[41,93])
 else []
def routeP (r:List Seg):List Int:=36 :: r.flatMap segP
structure Fine (x:Seg):Prop where
 bytes:InB x.text
 n0 : -9223372036854775808≤x.n
 n1:x.n≤9223372036854775807
 lo0 : -9223372036854775808≤x.lo
 lo1:x.lo≤9223372036854775807
 hi0 : -9223372036854775808≤x.hi
 hi1:x.hi≤9223372036854775807
 kinds:(x.kind=0∧x.n=0∧x.lo=0∧x.hi=0) ∨ (x.kind=1∧x.lo=0∧x.hi=0∧x.text = []) ∨ (x.kind=2∧x.n=0∧x.text = []) ∨ ((x.kind=3 ∨ x.kind=4)∧x.n=0∧x.lo=0∧x.hi=0∧x.text = []) ∨
  (x.kind=5∧x.n=0∧x.lo=0∧x.hi=0∧∃ ts,allS x.text 0 = .inl ts∧ts ≠ []∧printS ts=x.text∧depthC ts 0=true)
theorem z0:(-9223372036854775808:Int)≤0:=by decide
theorem z1:(0:Int)≤9223372036854775807:=by decide
def Okx (l:List Int):St→Prop
 | .inl a=>a≤l.length
 | .inr e=>e.1≤l.length
theorem Okx.nx {l:List Int} {st:St} (h:Okx l st):Okx l (nx l st).2∧(Pure.nx l st).1.at_≤l.length:=by
 cases st with
 | inr e=>exact ⟨h,Nat.zero_le _⟩
 | inl a=>
  cases hr:nextS l a with
  | inr e=>
   (have e1:Pure.nx l (.inl a)=(tok0,.inr e):=by simp only [Pure.nx,hr]);rw [e1];exact ⟨(nextS_bad h hr).1,Nat.zero_le _⟩
  | inl t=>
   (have e1:Pure.nx l (.inl a)=(t,.inl t.end_):=by simp only [Pure.nx,hr]);rw [e1];have hk:=nextS_ok h hr;exact ⟨hk.2.1,hk.2.2.1⟩
theorem Okx.bd {l:List Int} {st:St} {t:Tok} (h:Okx l st) (ht:t.at_≤l.length):Okx l (bd l t st):=by
 cases st with
 | inr e=>exact h
 | inl a=>
  show (badE l t).1≤l.length;unfold badE;split
  ·exact Nat.le_refl _
  ·exact ht
theorem Okx.pick {l:List Int} {s1 s2:St} {p:Prop} [Decidable p] (h1:Okx l s1) (h2:Okx l s2):Okx l (if p then s1 else s2):=by split <;> assumption
theorem Okx.must {l x:List Int} {st:St} (h:Okx l st):Okx l (mustC l x st):=Okx.pick h.nx.1 (h.nx.1.bd h.nx.2)
theorem Okx.slice {l:List Int} {st:St} (lo:Int) (h:Okx l st):Okx l (sliceC l lo st).2:=by
 unfold sliceC;split
 ·exact h.nx.1.must
 ·exact Okx.pick h.nx.1 (h.nx.1.bd h.nx.2)
theorem Okx.filtF {l:List Int}:∀ (f:Nat) (st:St) (n:Int) (acc:List Tok),Okx l st→Okx l (filtF f l st n acc).2:=by
 intro f;induction f with
 | zero=>intro st n acc h;exact h
 | succ f ih=>
  intro st n acc h;cases st with
  | inr e=>exact h
  | inl b=>
   simp only [Pure.filtF];split
   ·exact h.nx.1.bd h.nx.2
   ·split
    ·exact ih _ _ _ h.nx.1
    ·split
     ·split
      ·exact Okx.pick (h.nx.1.bd h.nx.2) h.nx.1
      ·exact ih _ _ _ h.nx.1
     ·exact ih _ _ _ h.nx.1
theorem Okx.filter {l:List Int} {st:St} (h:Okx l st):Okx l (filterC l st).2:=Okx.filtF _ _ _ _ h.must
theorem Okx.bracket {l:List Int} {st:St} (h:Okx l st):Okx l (bracketC l st).2:=by
 unfold bracketC;split
 ·split
  ·exact h.nx.1.nx.1.slice _
  ·exact Okx.pick h.nx.1.nx.1 (h.nx.1.nx.1.bd h.nx.1.nx.2)
 ·split
  ·exact h.nx.1.slice _
  ·split
   ·exact h.nx.1.must
   ·split
    ·exact h.nx.1.must
    ·split
     ·exact h.nx.1.filter.must
     ·exact (h.nx.1.bd h.nx.2).must
theorem Okx.point {l:List Int} {st:St} (h:Okx l st):Okx l (pointC l st).2:=by
 unfold pointC;split
 ·exact h.nx.1
 ·exact Okx.pick h.nx.1 (h.nx.1.bd h.nx.2)
theorem Okx.seg {l:List Int} {st:St} (t:Tok) (h:Okx l st):Okx l (segC l t st).2:=by
 unfold segC;split
 ·exact h.bracket
 ·split
  ·exact h.point
  ·exact h
theorem Okx.parF {l:List Int}:∀ (f:Nat) (st:St) (acc:List Seg),Okx l st→Okx l (parF f l st acc).2:=by
 intro f;induction f with
 | zero=>intro st acc h;exact h
 | succ f ih=>
  intro st acc h;cases st with
  | inr e=>exact h
  | inl a=>
   have h2:=h.nx;simp only [Pure.parF];cases hs:(Pure.nx l (.inl a)).2 with
   | inr e=>rw [hs] at h2;exact h2.1
   | inl b=>
    rw [hs] at h2;simp only [];split
    ·exact h2.1
    ·split
     ·exact Okx.bd (st:=.inl b) h2.1 h2.2
     ·split
      ·exact h2.2
      ·exact ih _ _ (Okx.seg _ h2.1)
end Go.Proofs.YtkbjblhompkdkaaDoor.Pure
namespace Go.Proofs.YtkbjblhompkdkaaDoor.Pure
set_option linter.unusedSimpArgs false
set_option linter.unusedVariables false
open Go.RowKit Go.Proofs.YtkbjblhompkdkaaDoor Go.Proofs.YtkbjblhompkdkaaDoor.PA Go.Proofs.YtkbjblhompkdkaaDoor.PB Go.Proofs.YtkbjblhompkdkaaDoorW.PrintWords Go.Proofs.YtkbjblhompkdkaaDoorW.PrintLast
section
variable (s:ByteArray) (hs:s.size≤140737488351232)
include hs
theorem name_loop (d:Nat):∀ i:Nat,i≤s.size→s.size - i=d→Ev (fun k=>quote_Name.l0 k s (s.size:Int) (i:Int)) (nameR (i == 0) ((bytesOf s).drop i)):=by
 induction d with
 | zero=>
  intro i hi hd;rw [bytes_end s (by omega)];refine Ev.succ ?_;simp only [quote_Name.l0,show ¬ ((i:Int) < (s.size:Int)) by omega,if_false,nameR];exact Ev.now _
 | succ d ih=>
  intro i hi hd;(have hlt:i < s.size:=by omega);have hn:=i_next hlt hs;have ih:=ih (i+1) (by omega) (by omega);rw [show (i+1 == 0)=false from rfl] at ih;rw [bytes_drop s hlt];refine Ev.succ ?_;simp only [quote_Name.l0,show (i:Int) < (s.size:Int) by omega,show (0:Int)≤(i:Int) by omega,if_true];generalize bt s (i:Int)=c;have j2:∀ b:Bool,(b=true ↔ isLet c)→Ev (fun k=>quote_Name.j2 k s (i:Int) c (s.size:Int) (i:Int) b) (nameR (i == 0) (c :: (bytesOf s).drop (i+1))):=by
   intro b hb;refine Ev.succ ?_;simp only [quote_Name.j2,hn,nameR];by_cases hl:isLet c
   ·simp only [hb.2 hl,if_true,hl,decide_true,Bool.true_or,Bool.true_and];exact ih
   ·have hbf:b=false:=by cases b with
     | false=>rfl
     | true=>exact absurd (hb.1 rfl) hl
    simp only [hbf,Bool.false_eq_true,if_false,hl,decide_false,Bool.false_or];by_cases h0:i=0
    ·subst h0;simp only [Int.natCast_zero,show ¬ (0:Int) > 0 by omega,if_false];exact Ev.now _
    ·simp only [show (i:Int) > 0 by omega,if_true,show (i == 0)=false from beq_eq_false_iff_ne.2 h0,Bool.not_false,Bool.true_and];by_cases hd:isDig c
     ·unfold isDig at hd;simp only [show c ≥ 48 by omega,hd.2,if_true,show isDig c from hd,decide_true,Bool.true_and];exact ih
     ·simp only [hd,decide_false,Bool.false_and];unfold isDig at hd;by_cases h48:c ≥ 48
      ·simp only [h48,if_true,show ¬ c≤57 by omega,if_false];exact Ev.now _
      ·simp only [h48,if_false];exact Ev.now _
  have j1:∀ b:Bool,(b=true ↔ 97≤c∧c≤122)→Ev (fun k=>quote_Name.j1 k s (i:Int) c (s.size:Int) (i:Int) b) (nameR (i == 0) (c :: (bytesOf s).drop (i+1))):=by
   intro b hb;refine Ev.succ ?_;simp only [quote_Name.j1];by_cases h97:97≤c∧c≤122
   ·simp only [hb.2 h97,if_true];exact j2 true ⟨fun _=>.inl h97,fun _=>rfl⟩
   ·have hbf:b=false:=by cases b with
     | false=>rfl
     | true=>exact absurd (hb.1 rfl) h97
    simp only [hbf,Bool.false_eq_true,if_false];by_cases h65:c ≥ 65
    ·by_cases h90:c≤90
     ·simp only [h65,h90,if_true,decide_true];exact j2 true ⟨fun _=>.inr (.inl ⟨h65,h90⟩),fun _=>rfl⟩
     ·simp only [h65,h90,if_true,if_false];refine j2 (c == 95) ?_;rw [beq_iff_eq];unfold isLet;omega
    ·simp only [h65,if_false];refine j2 (c == 95) ?_;rw [beq_iff_eq];unfold isLet;omega
  by_cases h97:c ≥ 97
  ·simp only [h97,if_true];refine j1 (decide (c≤122)) ?_;rw [decide_eq_true_iff];omega
  ·simp only [h97,if_false];refine j1 false ?_;constructor
   ·intro h;cases h
   ·intro h;omega
theorem name_ev:Ev (fun k=>quote_Name.f k s) (nameS (bytesOf s)):=by
 unfold quote_Name.f nameS;by_cases h0:s.size=0
 ·rw [bytes_nil h0];simp only [toList_nil.2 h0,if_true];exact Ev.now _
 ·have hn:¬ s.toList = []:=fun h=>h0 (toList_nil.1 h);have hd:=bytes_drop s (show 0 < s.size by omega);rw [List.drop_zero] at hd;simp only [hn,if_false];have:=name_loop s hs s.size 0 (by omega) (by omega);rw [List.drop_zero] at this;rw [show (bytesOf s).isEmpty=false by rw [hd];rfl];exact this
end
def segN (y:S83):Seg:=⟨y.f0,y.f1,y.f2,y.f3,bytesOf y.f4⟩
structure Rng (y:S83):Prop where
 n0 : -9223372036854775808≤y.f1
 n1:y.f1≤9223372036854775807
 lo0 : -9223372036854775808≤y.f2
 lo1:y.f2≤9223372036854775807
 hi0 : -9223372036854775808≤y.f3
 hi1:y.f3≤9223372036854775807
theorem end_some (n but:Int) (h0 : -9223372036854775808≤n) (h1:n≤9223372036854775807):route_end.f n but=some (strOfNums (endP n but)):=by
 unfold route_end.f endP;split
 ·rfl
 ·unfold num_Digits.f;rw [if_pos ⟨h0,h1⟩];rfl
theorem endP_len (n but:Int) (h0 : -9223372036854775808≤n) (h1:n≤9223372036854775807):(endP n but).length≤20:=by
 unfold endP;split
 ·simp
 ·exact digL_len n h0 h1
theorem quoteL_len (x:List Int):(quoteL x).length≤4 * x.length+2:=by
 have:=qbody_length x;simp [quoteL];omega
theorem segP_len (x:Seg) (n0 : -9223372036854775808≤x.n) (n1:x.n≤9223372036854775807) (lo0 : -9223372036854775808≤x.lo) (lo1:x.lo≤9223372036854775807) (hi0 : -9223372036854775808≤x.hi) (hi1:x.hi≤9223372036854775807) :
  (segP x).length≤4 * x.text.length+50∧(x.kind ≠ 0→(segP x).length≤x.text.length+50):=by
 have h1:=quoteL_len x.text;have h2:=digL_len x.n n0 n1;have h3:=endP_len x.lo 0 lo0 lo1;have h4:=endP_len x.hi 9223372036854775807 hi0 hi1;unfold segP;(repeat' split);all_goals (simp;try omega)
theorem lit1 (c:UInt8):(⟨#[c]⟩:ByteArray).size=1:=rfl
theorem lit3 (a b c:UInt8):(⟨#[a,b,c]⟩:ByteArray).size=3:=rfl
theorem lit2 (a b:UInt8):(⟨#[a,b]⟩:ByteArray).size=2:=rfl
section
variable (L:List S83) (hL:L.length≤1048576) (hx:∀ x ∈ L,x.f4.size≤1048576∧Rng x)
include hL hx
theorem rprint_loop (d:Nat):∀ (i:Nat) (acc:ByteArray),i≤L.length→L.length - i=d→acc.size≤i * 5000000+1→Ev (fun k=>route_Print.l0 k acc L (L.length:Int) (i:Int)) (acc++strOfNums (((L.drop i).map segN).flatMap segP)):=by
 induction d with
 | zero=>
  intro i acc hi hd hacc;refine Ev.succ ?_;refine Ev.congr (f:=fun _=>some acc) (fun k=>?_) ?_
  ·simp only [route_Print.l0];rw [if_neg (by omega)]
  ·rw [List.drop_eq_nil_of_le (by omega)];have:acc++strOfNums ((([]:List S83).map segN).flatMap segP)=acc:=bytes_add_nil acc;rw [this];exact Ev.now _
 | succ d ih=>
  intro i acc hi hd hacc;(have hlt:i < L.length:=by omega);obtain ⟨x,hxi⟩:∃ x,L[i]? = some x:=⟨_,List.getElem?_eq_getElem hlt⟩;(have hrd:rd_T83 L (i:Int)=x:=by simp [rd_T83,hxi]);have hdrop:L.drop i=x :: L.drop (i+1):=by
   rw [List.drop_eq_getElem_cons hlt];congr 1;exact (List.getElem?_eq_some_iff.1 hxi).2
  obtain ⟨hsz,hr⟩:=hx x (List.mem_of_getElem? hxi);have hn:=i_next (n:=L.length) hlt (by omega);have hlen:=(segP_len (segN x) hr.n0 hr.n1 hr.lo0 hr.lo1 hr.hi0 hr.hi1).1;have htl:(segN x).text.length=x.f4.size:=bytesOf_length _;rw [htl] at hlen;have ih':∀ p:ByteArray,p=strOfNums (segP (segN x))→Ev (fun k=>route_Print.l0 k (acc++p) L (L.length:Int) ((i+1:Nat):Int)) (acc++strOfNums (((x :: L.drop (i+1)).map segN).flatMap segP)):=by
   intro p hp;(have hps:p.size≤4 * x.f4.size+50:=by rw [hp,strOfNums_size];exact hlen);have:=ih (i+1) (acc++p) (by omega) (by omega) (by rw [ByteArray.size_append];omega);rw [List.map_cons,List.flatMap_cons,strOfNums_append,← ByteArray.append_assoc,← hp];exact this
  (have c1:(i:Int) < (L.length:Int):=by omega);(have c2:(0:Int)≤(i:Int):=by omega);rw [hdrop];refine Ev.succ ?_;simp only [route_Print.l0,hrd,c1,c2,if_true,hn];by_cases h0:x.f0=0
  ·simp only [h0,if_true];refine Ev.bind (name_ev x.f4 (by omega)) ?_;by_cases hnm:nameS (bytesOf x.f4)=true
   ·have hp:(⟨#[46]⟩:ByteArray)++x.f4=strOfNums (segP (segN x)):=by
     (have e:segP (segN x) = [46]++bytesOf x.f4:=by simp [segP,segN,h0,hnm]);rw [e,strOfNums_append,strOfNums_bytesOf];rfl
    refine Ev.congr (fun k=>?_) (ih' _ hp);rw [if_pos hnm,if_pos (by omega),if_pos (by rw [ByteArray.size_append,lit1];omega)]
   ·have hp:((⟨#[91]⟩:ByteArray)++strOfNums (quoteL (bytesOf x.f4)))++(⟨#[93]⟩:ByteArray)=strOfNums (segP (segN x)):=by
     (have e:segP (segN x) = [91]++quoteL (bytesOf x.f4)++[93]:=by simp [segP,segN,h0,hnm]);rw [e,strOfNums_append,strOfNums_append];rfl
    have hq:=quoteL_len (bytesOf x.f4);rw [bytesOf_length] at hq;simp only [hnm,if_false];refine Ev.bind (quote_ev x.f4 (by omega)) ?_;refine Ev.congr (fun k=>?_) (ih' _ hp);rw [if_pos (by rw [strOfNums_size];omega),if_pos (by rw [ByteArray.size_append,lit1,strOfNums_size];omega),if_pos (by rw [ByteArray.size_append,ByteArray.size_append,lit1,lit1,strOfNums_size];omega)]
  simp only [h0,if_false];by_cases h1:x.f0=1
  ·have hp:((⟨#[91]⟩:ByteArray)++strOfNums (digL x.f1))++(⟨#[93]⟩:ByteArray)=strOfNums (segP (segN x)):=by
    (have e:segP (segN x) = [91]++digL x.f1++[93]:=by simp [segP,segN,h1]);rw [e,strOfNums_append,strOfNums_append];rfl
   have hq:=digL_len x.f1 hr.n0 hr.n1;simp only [h1,if_true];refine Ev.bind (Ev.const (by unfold num_Digits.f;rw [if_pos ⟨hr.n0,hr.n1⟩])) ?_;refine Ev.congr (fun k=>?_) (ih' _ hp);rw [if_pos (by rw [strOfNums_size];omega),if_pos (by rw [ByteArray.size_append,lit1,strOfNums_size];omega),if_pos (by rw [ByteArray.size_append,ByteArray.size_append,lit1,lit1,strOfNums_size];omega)]
  simp only [h1,if_false];by_cases h2:x.f0=2
  ·have hp:((((⟨#[91]⟩:ByteArray)++strOfNums (endP x.f2 0))++(⟨#[58]⟩:ByteArray))++strOfNums (endP x.f3 9223372036854775807))++(⟨#[93]⟩:ByteArray)=strOfNums (segP (segN x)):=by
    (have e:segP (segN x) = [91]++endP x.f2 0++[58]++endP x.f3 9223372036854775807++[93]:=by simp [segP,segN,h2]);rw [e,strOfNums_append,strOfNums_append,strOfNums_append,strOfNums_append];rfl
   have hq:=endP_len x.f2 0 hr.lo0 hr.lo1;have hq2:=endP_len x.f3 9223372036854775807 hr.hi0 hr.hi1;simp only [h2,if_true];refine Ev.bind (Ev.const (end_some x.f2 0 hr.lo0 hr.lo1)) ?_;(have k1:1+(strOfNums (endP x.f2 0)).size≤9223372036854775807:=by rw [strOfNums_size];omega);(have k2:((⟨#[91]⟩:ByteArray)++strOfNums (endP x.f2 0)).size+1≤9223372036854775807:=by rw [ByteArray.size_append,lit1,strOfNums_size];omega);simp only [k1,k2,if_true];refine Ev.bind (Ev.const (end_some x.f3 _ hr.hi0 hr.hi1)) ?_;refine Ev.congr (fun k=>?_) (ih' _ hp);rw [if_pos (by simp only [ByteArray.size_append,lit1,strOfNums_size];omega),if_pos (by simp only [ByteArray.size_append,lit1,strOfNums_size];omega),if_pos (by simp only [ByteArray.size_append,lit1,strOfNums_size];omega)]
  simp only [h2,if_false];by_cases h3:x.f0=3
  ·have hp:(⟨#[91,42,93]⟩:ByteArray)=strOfNums (segP (segN x)):=by
    (have e:segP (segN x) = [91,42,93]:=by simp [segP,segN,h3]);rw [e];rfl
   simp only [h3,if_true];refine Ev.congr (fun k=>?_) (ih' _ hp);rw [if_pos (by omega)]
  simp only [h3,if_false];by_cases h4:x.f0=4
  ·have hp:(⟨#[46,46]⟩:ByteArray)=strOfNums (segP (segN x)):=by
    (have e:segP (segN x) = [46,46]:=by simp [segP,segN,h4]);rw [e];rfl
   simp only [h4,if_true];refine Ev.congr (fun k=>?_) (ih' _ hp);rw [if_pos (by omega)]
  simp only [h4,if_false];by_cases h5:x.f0=5
  ·have hp:((⟨#[91,63,40]⟩:ByteArray)++x.f4)++(⟨#[41,93]⟩:ByteArray)=strOfNums (segP (segN x)):=by
    (have e:segP (segN x) = [91,63,40]++bytesOf x.f4++[41,93]:=by simp [segP,segN,h5]);rw [e,strOfNums_append,strOfNums_append,strOfNums_bytesOf];rfl
   simp only [h5,if_true];refine Ev.congr (fun k=>?_) (ih' _ hp);rw [if_pos (by omega),if_pos (by simp only [ByteArray.size_append,lit3];omega),if_pos (by simp only [ByteArray.size_append,lit3,lit2];omega)]
  ·have hp:(⟨#[]⟩:ByteArray)=strOfNums (segP (segN x)):=by
    (have e:segP (segN x) = []:=by simp [segP,segN,h0,h1,h2,h3,h4,h5]);rw [e];rfl
   simp only [h5,if_false];have:=ih' _ hp;rw [bytes_add_nil] at this;exact this
theorem rprint_ev:Ev (fun k=>route_Print.f k L) (strOfNums (routeP (L.map segN))):=by
 unfold route_Print.f;have:=rprint_loop L hL hx _ 0 (⟨#[36]⟩:ByteArray) (Nat.zero_le _) rfl (by decide);rw [List.drop_zero] at this;have e:strOfNums (routeP (L.map segN))=(⟨#[36]⟩:ByteArray)++strOfNums ((L.map segN).flatMap segP):=by
  have:routeP (L.map segN) = [36]++(L.map segN).flatMap segP:=rfl;rw [this,strOfNums_append];rfl
 rw [e];exact this
end
theorem i_next2 {i n:Nat} (h:i < n) (hn:n≤9223372036854775807):wrap64 ((i:Int)+1)=((i+1:Nat):Int):=by unfold wrap64;omega
def shortC (l:List S83):Bool:=l.all (fun x=>decide (x.f4.size≤400)) && decide (l.length≤60)
theorem short_loop (L:List S83) (hL:L.length≤9223372036854775807) (d:Nat):∀ i:Nat,i≤L.length→L.length - i=d→Ev (fun k=>placketlaw16_Short.l0 k L L (L.length:Int) (i:Int)) ((L.drop i).all (fun x=>decide (x.f4.size≤400)) && decide (L.length≤60)):=by
 induction d with
 | zero=>
  intro i hi hd;refine Ev.succ ?_;rw [List.drop_eq_nil_of_le (by omega)];refine Ev.congr (fun k=>?_) (Ev.now _);simp only [placketlaw16_Short.l0];rw [if_neg (by omega)];simp;omega
 | succ d ih=>
  intro i hi hd;(have hlt:i < L.length:=by omega);obtain ⟨x,hxi⟩:∃ x,L[i]? = some x:=⟨_,List.getElem?_eq_getElem hlt⟩;(have hrd:rd_T83 L (i:Int)=x:=by simp [rd_T83,hxi]);have hdrop:L.drop i=x :: L.drop (i+1):=by
   rw [List.drop_eq_getElem_cons hlt];congr 1;exact (List.getElem?_eq_some_iff.1 hxi).2
  have hn:=i_next2 (n:=L.length) hlt (by omega);(have c1:(i:Int) < (L.length:Int):=by omega);(have c2:(0:Int)≤(i:Int):=by omega);rw [hdrop];refine Ev.succ ?_;simp only [placketlaw16_Short.l0,hrd,c1,c2,if_true,hn];by_cases hs:(x.f4.size:Int) > 400
  ·simp only [hs,if_true];(have:¬ x.f4.size≤400:=by omega);rw [List.all_cons,decide_eq_false this];exact Ev.now _
  ·simp only [hs,if_false];(have:x.f4.size≤400:=by omega);rw [List.all_cons,decide_eq_true this];exact ih (i+1) (by omega) (by omega)
theorem short_ev (L:List S83) (hL:L.length≤9223372036854775807):Ev (fun k=>placketlaw16_Short.f k L) (shortC L):=short_loop L hL _ 0 (Nat.zero_le _) rfl
end Go.Proofs.YtkbjblhompkdkaaDoor.Pure

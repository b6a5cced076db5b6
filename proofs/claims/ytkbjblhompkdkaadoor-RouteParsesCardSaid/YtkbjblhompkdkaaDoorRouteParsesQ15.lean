/- YtkbjblhompkdkaaDoorRouteParsesQ15: RefNext, LexDoc, RefRead, RefSlice -/
import Derived.Test.YtkbjblhompkdkaaDoorRouteParsesQ7
import Derived.Test.YtkbjblhompkdkaaDoorRouteParsesQ14
import Derived.Test.YtkbjblhompkdkaaDoorRouteParsesQ2
import Derived.Test.YtkbjblhompkdkaaDoorRouteParsesQ4
import Derived.Test.YtkbjblhompkdkaaDoorRouteParsesQ5
namespace Go.Proofs.YtkbjblhompkdkaaDoor
open Go.RowKit Go.Proofs.YtkbjblhompkdkaaDoor.PA Go.Proofs.YtkbjblhompkdkaaDoor.PB Go.Proofs.YtkbjblhompkdkaaDoor.PC Go.Proofs.YtkbjblhompkdkaaDoorW.PrintWords Go.Proofs.YtkbjblhompkdkaaDoorW.PrintLast
set_option linter.unusedVariables false
set_option linter.unusedSimpArgs false
def placketref16_reader_next.f (k:Nat) (s0:ByteArray) (s1 s2 s3:Int):Option (Int × Int × Int × Int × ByteArray × ByteArray × Int × Int × Int):=
 if s3=0 then (placketref13_Next.f k s0 s1).bind fun t=>if t.2.2.2.2.2.2=0 then some (t.1,t.2.1,t.2.2.1,t.2.2.2.1,t.2.2.2.2.1,s0,t.2.2.1,s2,s3) else some (0,0,0,0,(⟨#[]⟩:ByteArray),s0,s1,t.2.2.2.2.2.1,t.2.2.2.2.2.2)
 else some (0,0,0,0,(⟨#[]⟩:ByteArray),s0,s1,s2,s3)
def NR (w:World) (b:Nat) (cs:Array Value) (w':World):Prop:=
 Below w.heap.size w w'∧w'.heap[b]? = some (.cells cs 98 (0,0))∧w'.heap[w.heap.size]? = some (.cells z24 24 (0,0))
theorem NR.step {w w1 w2:World} {b:Nat} {cs:Array Value} (h:NR w b cs w1) (hb:Below w1.heap.size w1 w2):NR w b cs w2:=⟨below_then h.1 h.1.size hb,blk_below h.2.1 hb,blk_below h.2.2 hb⟩
theorem NR.drew {w w1:World} {b:Nat} {cs:Array Value} (h:NR w b cs w1):NR w b cs w1.drew:=⟨below_drew h.1,h.2.1,h.2.2⟩
theorem NR.alloc {w w1:World} {b:Nat} {cs:Array Value} (h:NR w b cs w1) :
  NR w b cs (w1.alloc (.cells #[.int .i64 0,.int .i64 0,.int .i64 0,.int .i64 0,.string ⟨#[]⟩] 24))∧(w1.alloc (.cells #[.int .i64 0,.int .i64 0,.int .i64 0,.int .i64 0,.string ⟨#[]⟩] 24)).heap[w1.heap.size]? = some (.cells #[.int .i64 0,.int .i64 0,.int .i64 0,.int .i64 0,.string ⟨#[]⟩] 24 (0,0))∧w.heap.size < w1.heap.size:=
 ⟨h.step (below_alloc (Below.refl _ _) _),blk_new _ _,blk_lt h.2.2⟩
theorem NR.set5 {w w1:World} {b g:Nat} {cs:Array Value} (x0 x1 x2 x3 x4:Value) (h:NR w b cs w1) (hb:b < w.heap.size) (hg:w.heap.size < g) :
  NR w b cs (((((w1.setCell ⟨g,0,none⟩ x0).setCell ⟨g,1,none⟩ x1).setCell ⟨g,2,none⟩ x2).setCell ⟨g,3,none⟩ x3).setCell ⟨g,4,none⟩ x4):=
 ⟨below5 _ _ _ _ _ h.1 (Nat.le_of_lt hg),far5 _ _ _ _ _ (by omega) h.2.1,far5 _ _ _ _ _ (by omega) h.2.2⟩
theorem keep_set5 {w W:World} {b:Nat} (x0 x1 x2 x3 x4:Value) (h:KeepBut w W b none) :
  KeepBut w (((((W.setCell ⟨w.heap.size,0,none⟩ x0).setCell ⟨w.heap.size,1,none⟩ x1).setCell ⟨w.heap.size,2,none⟩ x2).setCell ⟨w.heap.size,3,none⟩ x3).setCell ⟨w.heap.size,4,none⟩ x4) b none:=
 have st:∀ (W:World) (j:Nat) (v:Value),KeepBut w W b none→KeepBut w (W.setCell ⟨w.heap.size,j,none⟩ v) b none:=fun W j v h=>keep_far h (Nat.le_refl _) v
 st _ _ _ (st _ _ _ (st _ _ _ (st _ _ _ (st _ _ _ h))))
theorem below_set5 {w0 W:World} {g:Nat} (x0 x1 x2 x3 x4:Value) (h:Below w0.heap.size w0 W) (hg:w0.heap.size≤g) :
  Below w0.heap.size w0 (((((W.setCell ⟨g,0,none⟩ x0).setCell ⟨g,1,none⟩ x1).setCell ⟨g,2,none⟩ x2).setCell ⟨g,3,none⟩ x3).setCell ⟨g,4,none⟩ x4):=below5 _ _ _ _ _ h hg
set_option maxRecDepth 100000 in
set_option maxHeartbeats 8000000 in
theorem refnext_read (k b:Nat) (s0:ByteArray) (s1 s2:Int) (t1 t2 t3 t4:Int) (t5:ByteArray) (t6 t7:Int) (w0 w:World) (hI:IsS98 w0 w b s0 s1 s2 0) (hB:Below w0.heap.size w0 w) (h:placketref13_Next.f k s0 s1=some (t1,t2,t3,t4,t5,t6,t7)) :
  Calls Tryd.prog 73 #[.pointer (some ⟨b,0,none⟩)] w fun e w'=>(if t7=0 then e = .returned (.agg #[.int .i64 t1,.int .i64 t2,.int .i64 t3,.int .i64 t4,.string t5])∧IsS98 w0 w' b s0 t3 s2 0 else e = .returned (.agg #[.int .i64 0,.int .i64 0,.int .i64 0,.int .i64 0,.string ⟨#[]⟩])∧IsS98 w0 w' b s0 s1 t6 t7)∧Below w0.heap.size w0 w'∧KeepBut w w' b none:=by
 have HI:=Lib.hid hI;have HB:=Lib.hid hB;have HN:=Lib.hid h;obtain ⟨hb,hge⟩:=hI;have HBL:=Lib.hid (blk_lt hb);have HGE:=Lib.hid hge;have hba:=below_alloc (Below.refl w.heap.size w) (.cells #[.int .i64 0,.int .i64 0,.int .i64 0,.int .i64 0,.string ⟨#[]⟩] 24);have NI0:=Lib.hid (show NR w b #[.string s0,.int .i64 s1,.int .i64 s2,.int .i64 0] (w.alloc (.cells #[.int .i64 0,.int .i64 0,.int .i64 0,.int .i64 0,.string ⟨#[]⟩] 24)) from ⟨hba,blk_below hb hba,blk_new w _⟩);have k3:=(blk_cell NI0.out.2.1 3).trans (show _=some (.int .i64 0) from rfl);clear hb h hba hB hge;(go_enter Tryd.func73,Tryd.ntmps73);(go_upto_region 3 with (fail));clear k3;generalize (w.alloc (.cells #[.int .i64 0,.int .i64 0,.int .i64 0,.int .i64 0,.string ⟨#[]⟩] 24))=W0 at *
 refine start_ (n:=17) (S:=fun w'=>w'.cell? ⟨b,0,none⟩=some (.string s0)∧w'.cell? ⟨b,1,none⟩=some (.int .i64 s1)∧NR w b #[.string s0,.int .i64 s1,.int .i64 s2,.int .i64 0] w') (ds:=[]) #[false,false,false,false,false,false,false,false,false,false,false,false,false,false,false,false,false] (by kernel_rfl) rfl rfl ⟨(blk_cell NI0.out.2.1 0).trans rfl,(blk_cell NI0.out.2.1 1).trans rfl,NI0.out.drew⟩ (fun hHeld=>?_);refine pure_ (i:=0) (N:=some 13) (v:=?_) (a':=?_) #[true,false,false,false,false,false,false,false,false,false,false,false,false,false,false,false,false] rfl rfl (by kernel_rfl) (fun _ _ _ h=>h) (Or.inl ⟨by rfl,?_⟩) ?_ ?_;rotate_left
 ·intro w';go_simp;with_reducible rfl
 rotate_left
 ·simp only [Act.put,List.setIfInBounds_toArray,List.set_cons_zero,List.set_cons_succ,i64_w,i32_w];rfl
 refine pure_ (i:=1) (N:=some 14) (v:=?_) (a':=?_) #[true,true,false,false,false,false,false,false,false,false,false,false,false,false,false,false,false] rfl rfl (by kernel_rfl) (fun _ _ _ h=>h) (Or.inl ⟨by rfl,?_⟩) ?_ ?_;rotate_left
 ·intro w';go_simp;with_reducible rfl
 rotate_left
 ·simp only [Act.put,List.setIfInBounds_toArray,List.set_cons_zero,List.set_cons_succ,i64_w,i32_w];rfl
 refine pure_ (i:=2) (N:=some 15) (v:=?_) (a':=?_) #[true,true,true,false,false,false,false,false,false,false,false,false,false,false,false,false,false] rfl rfl (by kernel_rfl) (fun _ _ _ h=>h) (Or.inl ⟨by rfl,?_⟩) ?_ ?_;rotate_left
 ·intro w';go_simp;with_reducible rfl
 rotate_left
 ·simp only [Act.put,List.setIfInBounds_toArray,List.set_cons_zero,List.set_cons_succ,i64_w,i32_w];rfl
 refine pure_ (i:=4) (N:=some 17) (v:=?_) (a':=?_) #[true,true,true,false,true,false,false,false,false,false,false,false,false,false,false,false,false] rfl rfl (by kernel_rfl) (fun _ _ _ h=>h) (Or.inl ⟨by rfl,?_⟩) ?_ ?_;rotate_left
 ·intro w';go_simp;with_reducible rfl
 rotate_left
 ·simp only [Act.put,List.setIfInBounds_toArray,List.set_cons_zero,List.set_cons_succ,i64_w,i32_w];rfl
 refine pure_ (i:=5) (N:=some 18) (v:=?_) (a':=?_) #[true,true,true,false,true,true,false,false,false,false,false,false,false,false,false,false,false] rfl rfl (by kernel_rfl) (fun _ _ _ h=>h) (Or.inl ⟨by rfl,?_⟩) ?_ ?_;rotate_left
 ·intro w';go_simp;with_reducible rfl
 rotate_left
 ·simp only [Act.put,List.setIfInBounds_toArray,List.set_cons_zero,List.set_cons_succ,i64_w,i32_w];rfl
 refine pure_ (i:=6) (N:=some 19) (v:=?_) (a':=?_) #[true,true,true,false,true,true,true,false,false,false,false,false,false,false,false,false,false] rfl rfl (by kernel_rfl) (fun _ _ _ h=>h) (Or.inl ⟨by rfl,?_⟩) ?_ ?_;rotate_left
 ·intro w';go_simp;with_reducible rfl
 rotate_left
 ·simp only [Act.put,List.setIfInBounds_toArray,List.set_cons_zero,List.set_cons_succ,i64_w,i32_w];rfl
 refine take_ (i:=3) (N:=some 16) (v:=?_) (a':=?_) #[true,true,true,true,true,true,true,false,false,false,false,false,false,false,false,false,false] rfl rfl (by kernel_rfl) (fun _ _ _ h=>h) (Or.inl ⟨by rfl,?_⟩) hHeld ?_ ?_;rotate_left
 ·rintro w' ⟨s0,s1,s2⟩;go_simp;with_reducible rfl
 rotate_left
 ·simp only [Act.put,List.setIfInBounds_toArray,List.set_cons_zero,List.set_cons_succ,i64_w,i32_w];rfl
 refine take_ (i:=7) (N:=some 20) (v:=?_) (a':=?_) #[true,true,true,true,true,true,true,true,false,false,false,false,false,false,false,false,false] rfl rfl (by kernel_rfl) (fun _ _ _ h=>h) (Or.inl ⟨by rfl,?_⟩) hHeld ?_ ?_;rotate_left
 ·rintro w' ⟨s0,s1,s2⟩;go_simp;with_reducible rfl
 rotate_left
 ·simp only [Act.put,List.setIfInBounds_toArray,List.set_cons_zero,List.set_cons_succ,i64_w,i32_w];rfl
 refine join_ (σ:=Nat) 3 #[true,true,true,true,true,true,true,true,true,true,true,true,true,true,false,false,false] (fun g=>[(21,.tuple #[.agg #[.int .i64 t1,.int .i64 t2,.int .i64 t3,.int .i64 t4,.string t5],.int .i64 t6,.int .i64 t7]),(3,.pointer (some ⟨g,0,none⟩)),(12,.tuple #[.agg #[.int .i64 t1,.int .i64 t2,.int .i64 t3,.int .i64 t4,.string t5],.int .i64 t6,.int .i64 t7]),(22,.agg #[.int .i64 t1,.int .i64 t2,.int .i64 t3,.int .i64 t4,.string t5]),(23,.int .i64 t6),(24,.int .i64 t7)]) (fun g w'=>(w'.cell? ⟨b,0,none⟩=some (.string s0)∧w'.cell? ⟨b,1,none⟩=some (.int .i64 s1)∧NR w b #[.string s0,.int .i64 s1,.int .i64 s2,.int .i64 0] w')∧w'.heap[g]? = some (.cells #[.int .i64 0,.int .i64 0,.int .i64 0,.int .i64 0,.string ⟨#[]⟩] 24 (0,0))∧w.heap.size < g) ?_ ?_;rotate_left
 ·intro hCont;refine two_ (i:=8) (j:=13) (Ni:=some 21) (Nj:=some 3) #[true,true,true,true,true,true,true,true,true,false,false,false,false,false,false,false,false] #[true,true,true,true,true,true,true,true,false,false,false,false,false,true,false,false,false] rfl rfl rfl rfl (by kernel_rfl) (by decide) (by decide) (fun K hK=>?_) (fun K hK=>?_)
  ·skip;refine goes_ Tryd.func17 (by kernel_rfl) rfl #[.string s0,.int .i64 s1] (by rfl) rfl rfl (by simp only [List.map_toArray,List.map_cons,List.map_nil];rfl) ?_;refine (placketref13_Next.calls k s0 s1 t1 t2 t3 t4 t5 t6 t7 _ HN.out).mono ?_;rintro e w3 ⟨rfl,hb3⟩;refine ⟨_,rfl,?_⟩;have hNI:=NR.step hHeld.2.2 hb3;refine hK.out _ _ ⟨(blk_cell hNI.2.1 0).trans rfl,(blk_cell hNI.2.1 1).trans rfl,hNI⟩ (fun hHeld=>?_);clear hK K;refine norm_ (a':=?_) ?_ ?_;rotate_left
   ·show Act.put _ (some 21) _=_;simp only [Act.put,List.setIfInBounds_toArray,List.set_cons_zero,List.set_cons_succ,i64_w,i32_w];rfl
   refine pure_ (i:=9) (N:=some 12) (v:=?_) (a':=?_) #[true,true,true,true,true,true,true,true,true,true,false,false,false,false,false,false,false] rfl rfl (by kernel_rfl) (fun _ _ _ h=>h) (Or.inl ⟨by rfl,?_⟩) ?_ ?_;rotate_left
   ·intro w';go_simp;with_reducible rfl
   rotate_left
   ·simp only [Act.put,List.setIfInBounds_toArray,List.set_cons_zero,List.set_cons_succ,i64_w,i32_w];rfl
   refine pure_ (i:=10) (N:=some 22) (v:=?_) (a':=?_) #[true,true,true,true,true,true,true,true,true,true,true,false,false,false,false,false,false] rfl rfl (by kernel_rfl) (fun _ _ _ h=>h) (Or.inl ⟨by rfl,?_⟩) ?_ ?_;rotate_left
   ·intro w';go_simp;with_reducible rfl
   rotate_left
   ·simp only [Act.put,List.setIfInBounds_toArray,List.set_cons_zero,List.set_cons_succ,i64_w,i32_w];rfl
   refine pure_ (i:=11) (N:=some 23) (v:=?_) (a':=?_) #[true,true,true,true,true,true,true,true,true,true,true,true,false,false,false,false,false] rfl rfl (by kernel_rfl) (fun _ _ _ h=>h) (Or.inl ⟨by rfl,?_⟩) ?_ ?_;rotate_left
   ·intro w';go_simp;with_reducible rfl
   rotate_left
   ·simp only [Act.put,List.setIfInBounds_toArray,List.set_cons_zero,List.set_cons_succ,i64_w,i32_w];rfl
   refine pure_ (i:=12) (N:=some 24) (v:=?_) (a':=?_) #[true,true,true,true,true,true,true,true,true,true,true,true,true,false,false,false,false] rfl rfl (by kernel_rfl) (fun _ _ _ h=>h) (Or.inl ⟨by rfl,?_⟩) ?_ ?_;rotate_left
   ·intro w';go_simp;with_reducible rfl
   rotate_left
   ·simp only [Act.put,List.setIfInBounds_toArray,List.set_cons_zero,List.set_cons_succ,i64_w,i32_w];rfl
   refine one_ (i:=13) (N:=some 3) #[true,true,true,true,true,true,true,true,true,true,true,true,true,true,false,false,false] rfl rfl (by kernel_rfl) (by decide) (fun K hK=>?_);refine value_ (w1:=?_) (v:=?_) (by rfl) rfl ?_ ?_;rotate_left 2
   ·go_simp;constructor
    ·rfl
    ·rfl
   obtain ⟨hNI,hGB,hGL⟩:=NR.alloc hHeld.2.2;refine hK.out _ _ ⟨(blk_cell hNI.2.1 0).trans rfl,(blk_cell hNI.2.1 1).trans rfl,hNI⟩ (fun hHeld=>?_);clear hK K;refine norm_ (a':=?_) ?_ ?_;rotate_left
   ·show Act.put _ (some 3) _=_;simp only [Act.put,List.setIfInBounds_toArray,List.set_cons_zero,List.set_cons_succ,i64_w,i32_w];rfl
   exact norm_ (by first|(simp only [putAll,Act.put,List.setIfInBounds_toArray,List.set_cons_zero,List.set_cons_succ];done)|(simp only [putAll,Act.put,List.setIfInBounds_toArray,List.set_cons_zero,List.set_cons_succ];rfl)) (hCont _ _ ⟨hHeld,hGB,hGL⟩)
  ·skip;refine value_ (w1:=?_) (v:=?_) (by rfl) rfl ?_ ?_;rotate_left 2
   ·go_simp;constructor
    ·rfl
    ·rfl
   obtain ⟨hNI,hGB,hGL⟩:=NR.alloc hHeld.2.2;refine hK.out _ _ ⟨(blk_cell hNI.2.1 0).trans rfl,(blk_cell hNI.2.1 1).trans rfl,hNI⟩ (fun hHeld=>?_);clear hK K;refine norm_ (a':=?_) ?_ ?_;rotate_left
   ·show Act.put _ (some 3) _=_;simp only [Act.put,List.setIfInBounds_toArray,List.set_cons_zero,List.set_cons_succ,i64_w,i32_w];rfl
   refine one_ (i:=8) (N:=some 21) #[true,true,true,true,true,true,true,true,true,false,false,false,false,true,false,false,false] rfl rfl (by kernel_rfl) (by decide) (fun K hK=>?_);refine goes_ Tryd.func17 (by kernel_rfl) rfl #[.string s0,.int .i64 s1] (by rfl) rfl rfl (by simp only [List.map_toArray,List.map_cons,List.map_nil];rfl) ?_;refine (placketref13_Next.calls k s0 s1 t1 t2 t3 t4 t5 t6 t7 _ HN.out).mono ?_;rintro e w3 ⟨rfl,hb3⟩;refine ⟨_,rfl,?_⟩;have hNI:=NR.step hHeld.2.2 hb3;have hGB:=blk_below hGB hb3;refine hK.out _ _ ⟨(blk_cell hNI.2.1 0).trans rfl,(blk_cell hNI.2.1 1).trans rfl,hNI⟩ (fun hHeld=>?_);clear hK K;refine norm_ (a':=?_) ?_ ?_;rotate_left
   ·show Act.put _ (some 21) _=_;simp only [Act.put,List.setIfInBounds_toArray,List.set_cons_zero,List.set_cons_succ,i64_w,i32_w];rfl
   refine pure_ (i:=9) (N:=some 12) (v:=?_) (a':=?_) #[true,true,true,true,true,true,true,true,true,true,false,false,false,true,false,false,false] rfl rfl (by kernel_rfl) (fun _ _ _ h=>h) (Or.inl ⟨by rfl,?_⟩) ?_ ?_;rotate_left
   ·intro w';go_simp;with_reducible rfl
   rotate_left
   ·simp only [Act.put,List.setIfInBounds_toArray,List.set_cons_zero,List.set_cons_succ,i64_w,i32_w];rfl
   refine pure_ (i:=10) (N:=some 22) (v:=?_) (a':=?_) #[true,true,true,true,true,true,true,true,true,true,true,false,false,true,false,false,false] rfl rfl (by kernel_rfl) (fun _ _ _ h=>h) (Or.inl ⟨by rfl,?_⟩) ?_ ?_;rotate_left
   ·intro w';go_simp;with_reducible rfl
   rotate_left
   ·simp only [Act.put,List.setIfInBounds_toArray,List.set_cons_zero,List.set_cons_succ,i64_w,i32_w];rfl
   refine pure_ (i:=11) (N:=some 23) (v:=?_) (a':=?_) #[true,true,true,true,true,true,true,true,true,true,true,true,false,true,false,false,false] rfl rfl (by kernel_rfl) (fun _ _ _ h=>h) (Or.inl ⟨by rfl,?_⟩) ?_ ?_;rotate_left
   ·intro w';go_simp;with_reducible rfl
   rotate_left
   ·simp only [Act.put,List.setIfInBounds_toArray,List.set_cons_zero,List.set_cons_succ,i64_w,i32_w];rfl
   refine pure_ (i:=12) (N:=some 24) (v:=?_) (a':=?_) #[true,true,true,true,true,true,true,true,true,true,true,true,true,true,false,false,false] rfl rfl (by kernel_rfl) (fun _ _ _ h=>h) (Or.inl ⟨by rfl,?_⟩) ?_ ?_;rotate_left
   ·intro w';go_simp;with_reducible rfl
   rotate_left
   ·simp only [Act.put,List.setIfInBounds_toArray,List.set_cons_zero,List.set_cons_succ,i64_w,i32_w];rfl
   exact norm_ (by first|(simp only [putAll,Act.put,List.setIfInBounds_toArray,List.set_cons_zero,List.set_cons_succ];done)|(simp only [putAll,Act.put,List.setIfInBounds_toArray,List.set_cons_zero,List.set_cons_succ];rfl)) (hCont _ _ ⟨hHeld,hGB,hGL⟩)
 rintro g w4 ⟨hHeld,hGB,hGL⟩;refine norm_ (a':=?_) ?_ ?_;rotate_left
 ·simp only [putAll,Act.put,List.setIfInBounds_toArray,List.set_cons_zero,List.set_cons_succ];rfl
 refine one_ (i:=14) (N:=none) #[true,true,true,true,true,true,true,true,true,true,true,true,true,true,true,false,false] rfl rfl (by kernel_rfl) (by decide) (fun K hK=>?_);obtain ⟨z0,z1,z2,z3,z4⟩:=cells5 hGB;obtain ⟨f0,f1,f2,f3,f4⟩:=frozen5 hGB;refine skip_ (w1:=?_) (by rfl) rfl ?_ ?_;rotate_left
 ·go_simp;rfl
 have hNI:=NR.set5 (.int .i64 t1) (.int .i64 t2) (.int .i64 t3) (.int .i64 t4) (.string t5) hHeld.2.2 HBL.out hGL;have hTB:=put5 (.int .i64 t1) (.int .i64 t2) (.int .i64 t3) (.int .i64 t4) (.string t5) hGB;clear z0 f0 z1 f1 z2 f2 z3 f3 z4 f4;refine hK.out _ _ ⟨(blk_cell hNI.2.1 0).trans rfl,(blk_cell hNI.2.1 1).trans rfl,hNI⟩ (fun hHeld=>?_);clear hK K;refine pure_ (i:=15) (N:=some 4) (v:=?_) (a':=?_) #[true,true,true,true,true,true,true,true,true,true,true,true,true,true,true,true,false] rfl rfl (by kernel_rfl) (fun _ _ _ h=>h) (Or.inl ⟨by rfl,?_⟩) ?_ ?_;rotate_left
 ·intro w';go_simp;with_reducible rfl
 rotate_left
 ·simp only [Act.put,List.setIfInBounds_toArray,List.set_cons_zero,List.set_cons_succ,i64_w,i32_w];rfl
 refine pure_ (i:=16) (N:=some 5) (v:=?_) (a':=?_) #[true,true,true,true,true,true,true,true,true,true,true,true,true,true,true,true,true] rfl rfl (by kernel_rfl) (fun _ _ _ h=>h) (Or.inl ⟨by rfl,?_⟩) ?_ ?_;rotate_left
 ·intro w';go_simp;with_reducible rfl
 rotate_left
 ·simp only [Act.put,List.setIfInBounds_toArray,List.set_cons_zero,List.set_cons_succ,i64_w,i32_w];rfl
 refine done_ (by kernel_rfl) ?_;have HTB:=Lib.hid hTB;have HNI:=Lib.hid hNI;have HGL:=Lib.hid hGL;clear hHeld hNI hTB hGB;generalize (((((w4.setCell ⟨g,0,none⟩ (.int .i64 t1)).setCell ⟨g,1,none⟩ (.int .i64 t2)).setCell ⟨g,2,none⟩ (.int .i64 t3)).setCell ⟨g,3,none⟩ (.int .i64 t4)).setCell ⟨g,4,none⟩ (.string t5))=w5 at *
 (have hbg:b ≠ g:=by have:=HBL.out;omega);have hlt:=HBL.out;by_cases h7:t7=0
 ·subst h7;have j1:=(blk_cell HNI.out.2.1 1).trans (show _=some (.int .i64 s1) from rfl);have e1:=blk_frozen HNI.out.2.1 1;have c2:=(blk_cell HTB.out 2).trans (show _=some (.int .i64 t3) from rfl);(go_upto_region 8 with (fail));have HTB6:=Lib.hid (show (w5.setCell ⟨b,1,none⟩ (.int .i64 t3)).heap[g]? = _ from blk_far HTB.out (p:=⟨b,1,none⟩) (Ne.symm hbg) _);have HRB6:=Lib.hid (show (w5.setCell ⟨b,1,none⟩ (.int .i64 t3)).heap[w.heap.size]? = _ from blk_far HNI.out.2.2 (p:=⟨b,1,none⟩) (show w.heap.size ≠ b by omega) _);have HB6:=Lib.hid (show (w5.setCell ⟨b,1,none⟩ (.int .i64 t3)).heap[b]? = some (.cells #[.string s0,.int .i64 t3,.int .i64 s2,.int .i64 0] 98 (0,0)) from blk_put HNI.out.2.1 1 _ rfl);have HK6:=Lib.hid (show KeepBut w (w5.setCell ⟨b,1,none⟩ (.int .i64 t3)) b none from (KeepBut.of_below HNI.out.1 b none).set_ 1 _);have HBB6:=Lib.hid (show Below w0.heap.size w0 (w5.setCell ⟨b,1,none⟩ (.int .i64 t3)) from (below_then HB.out HB.out.size HNI.out.1).setCell HGE.out _);clear j1 e1 c2;generalize (w5.setCell ⟨b,1,none⟩ (.int .i64 t3))=w6 at *
  obtain ⟨c0,c1,c2,c3,c4⟩:=cells5 HTB6.out;have hblk:=HRB6.out;obtain ⟨k0,k1,k2,k3,k4⟩:=cells5 hblk;obtain ⟨f0,f1,f2,f3,f4⟩:=frozen5 hblk;have HK:=Lib.hid hblk;clear hblk;go_wp2;refine bodyPost_ret (results_c rfl _ _ w.heap.size 24 _ (0,0) _ rfl (put5 _ _ _ _ _ HK.out) Tryd.underlying24 rfl (by kernel_rfl)) rfl ?_;exact ⟨⟨rfl,far5 _ _ _ _ _ (show b ≠ w.heap.size by omega) HB6.out,HGE.out⟩,below_set5 _ _ _ _ _ HBB6.out HB.out.size,keep_set5 _ _ _ _ _ HK6.out⟩
 ·have b7:(t7 == 0)=false:=beq_eq_false_iff_ne.2 h7;have b8:(t7 != 0)=true:=bne_iff_ne.2 h7;have H7:=Lib.hid h7;clear h7;(go_wp2_with fail);refine (placketref16_reader_fail.calls b s0 s1 s2 0 t6 t7 s0 s1 t6 t7 w0 w5 ⟨HNI.out.2.1,HGE.out⟩ (below_then HB.out HB.out.size HNI.out.1) rfl).mono ?_;rintro e w6 ⟨rfl,hi6,hb6,hk6⟩;have HRB6:=Lib.hid (KeepBut.blk hk6 HNI.out.2.2 (show w.heap.size ≠ b by omega) (by simp));have HI6:=Lib.hid hi6;have HB6:=Lib.hid hb6;have HK6:=Lib.hid (KeepBut.trans (KeepBut.of_below HNI.out.1 b none) hk6 (.inl rfl));clear hi6 hb6 hk6;have hblk:=HRB6.out;obtain ⟨k0,k1,k2,k3,k4⟩:=cells5 hblk;obtain ⟨f0,f1,f2,f3,f4⟩:=frozen5 hblk;have HK:=Lib.hid hblk;clear hblk;go_wp2;refine bodyPost_ret (results_c rfl _ _ w.heap.size 24 _ (0,0) _ rfl (put5 _ _ _ _ _ HK.out) Tryd.underlying24 rfl (by kernel_rfl)) rfl ?_;exact ⟨⟨rfl,far5 _ _ _ _ _ (show b ≠ w.heap.size by omega) HI6.out.1,HGE.out⟩,below_set5 _ _ _ _ _ HB6.out HB.out.size,keep_set5 _ _ _ _ _ HK6.out⟩
set_option maxRecDepth 100000 in
set_option maxHeartbeats 8000000 in
theorem placketref16_reader_next.calls (k:Nat) (b:Nat) (s0:ByteArray) (s1:Int) (s2:Int) (s3:Int) (r1:Int) (r2:Int) (r3:Int) (r4:Int) (r5:ByteArray) (r6:ByteArray) (r7:Int) (r8:Int) (r9:Int) (w0 w:World) (hI:IsS98 w0 w b s0 s1 s2 s3) (hB:Below w0.heap.size w0 w) (h:placketref16_reader_next.f k s0 s1 s2 s3=some (r1,r2,r3,r4,r5,r6,r7,r8,r9)) :
  Calls Tryd.prog 73 #[.pointer (some ⟨b,0,none⟩)] w fun e w'=>e = .returned (.agg #[.int .i64 r1,.int .i64 r2,.int .i64 r3,.int .i64 r4,.string r5])∧IsS98 w0 w' b r6 r7 r8 r9∧Below w0.heap.size w0 w'∧KeepBut w w' b none:=by
 unfold placketref16_reader_next.f at h;by_cases h3:s3=0
 ·subst h3;rw [if_pos rfl] at h;obtain ⟨⟨t1,t2,t3,t4,t5,t6,t7⟩,hn,h⟩:=Option.bind_eq_some_iff.mp h;dsimp only at h;refine (refnext_read k b s0 s1 s2 t1 t2 t3 t4 t5 t6 t7 w0 w hI hB hn).mono ?_;rintro e w' ⟨hp,hb,hk⟩;by_cases h7:t7=0
  ·rw [if_pos h7] at h hp;simp only [Option.some.injEq,Prod.mk.injEq] at h;obtain ⟨rfl,rfl,rfl,rfl,rfl,rfl,rfl,rfl,rfl⟩:=h;exact ⟨hp.1,hp.2,hb,hk⟩
  ·rw [if_neg h7] at h hp;simp only [Option.some.injEq,Prod.mk.injEq] at h;obtain ⟨rfl,rfl,rfl,rfl,rfl,rfl,rfl,rfl,rfl⟩:=h;exact ⟨hp.1,hp.2,hb,hk⟩
 ·rw [if_neg h3] at h;simp only [Option.some.injEq,Prod.mk.injEq] at h;obtain ⟨rfl,rfl,rfl,rfl,rfl,rfl,rfl,rfl,rfl⟩:=h;have HI:=Lib.hid hI;have HB:=Lib.hid hB;have hbw:=below_alloc (Below.refl w.heap.size w) (.cells #[.int .i64 0,.int .i64 0,.int .i64 0,.int .i64 0,.string ⟨#[]⟩] 24);have k3:=(blk_cell (blk_below hI.1 hbw) 3).trans (show _=some (.int .i64 s3) from rfl);have b7:(s3 == 0)=false:=beq_eq_false_iff_ne.2 h3;have b8:(s3 != 0)=true:=bne_iff_ne.2 h3;have HBW:=Lib.hid hbw;clear h3 hI hB hbw;(go_enter Tryd.func73,Tryd.ntmps73);go_wp2;refine bodyPost_ret (results_c rfl _ _ w.heap.size 24 _ (0,0) _ rfl (blk_new w _) Tryd.underlying24 rfl (by kernel_rfl)) rfl ?_;exact ⟨rfl,⟨blk_below HI.out.1 HBW.out,HI.out.2⟩,below_then HB.out HB.out.size HBW.out,KeepBut.of_below HBW.out b none⟩
end Go.Proofs.YtkbjblhompkdkaaDoor
namespace Go.Proofs.YtkbjblhompkdkaaDoor.Pure
set_option linter.unusedSimpArgs false
open Go.RowKit Go.Proofs.YtkbjblhompkdkaaDoor.PA Go.Proofs.YtkbjblhompkdkaaDoorW.PrintWords Go.Proofs.YtkbjblhompkdkaaDoorW.PrintLast
theorem tdiv_neg10 (d:Int) (h0:0≤d) (h1:d≤9):Int.tdiv (-9223372036854775808+d) 10 = -((9223372036854775808 - d) / 10):=by
 rw [show -9223372036854775808+d = -(9223372036854775808 - d) by omega,Int.neg_tdiv,Int.tdiv_eq_ediv_of_nonneg (by omega)]
section
variable (s:ByteArray) (hs:s.size≤140737488351232)
include hs
theorem word_loop (d:Nat):∀ i:Nat,i≤s.size→s.size - i=d→Ev (fun k=>placketref01_word.l0 k s (i:Int)) (decide (allDig ((bytesOf s).drop i))):=by
 induction d with
 | zero=>
  intro i hi hd;rw [bytes_end s (by omega)];refine Ev.step (f:=fun _=>some true) (fun k=>?_) (by simpa [allDig] using Ev.now true);simp only [placketref01_word.l0];rw [if_neg (by omega)]
 | succ d ih=>
  intro i hi hd;(have hlt:i < s.size:=by omega);rw [bytes_drop s hlt];by_cases hc:48≤bt s (i:Int)∧bt s (i:Int)≤57
  ·refine Ev.step (f:=fun k=>placketref01_word.l0 k s ((i+1:Nat):Int)) (fun k=>?_) ?_
   ·simp only [placketref01_word.l0];rw [if_pos (by omega),if_pos (by omega),if_neg (by omega),if_neg (by omega),i_next hlt hs]
   ·have:=ih (i+1) (by omega) (by omega);rw [show decide (allDig (bt s (i:Int) :: (bytesOf s).drop (i+1)))=decide (allDig ((bytesOf s).drop (i+1))) from by rw [decide_eq_decide,allDig_cons];exact ⟨fun h=>h.2,fun h=>⟨hc,h⟩⟩];exact this
  ·rw [decide_eq_false (fun h=>hc (allDig_cons.1 h).1)];refine Ev.step (f:=fun _=>some false) (fun k=>?_) (Ev.now _);simp only [placketref01_word.l0];rw [if_pos (by omega),if_pos (by omega)];by_cases h1:bt s (i:Int) < 48
   ·rw [if_pos h1]
   ·rw [if_neg h1,if_pos (by omega)]
def wordS (l:List Int):Bool:=if l.head? = some 45 then decide (Digs (1 < l.length) l.tail) else decide (Digs (1 < l.length) l)
theorem word_from (i:Nat) (hi:i≤s.size):Ev (fun k=>placketref01_word.j1 k s (i:Int)) (decide (Digs (1 < s.size) ((bytesOf s).drop i))):=by
 by_cases he:i=s.size
 ·rw [bytes_end s (by omega),decide_eq_false (by simp [Digs])];refine Ev.step (f:=fun k=>placketref01_word.j2 k s (i:Int) true) (fun k=>?_) ?_
  ·simp only [placketref01_word.j1];rw [if_pos (by omega)]
  ·refine Ev.step (f:=fun _=>some false) (fun k=>?_) (Ev.now _);simp only [placketref01_word.j2];rw [if_pos trivial]
 ·(have hlt:i < s.size:=by omega);have hd:=bytes_drop s hlt;by_cases hz:bt s (i:Int)=48∧1 < s.size
  ·rw [decide_eq_false (by rw [hd];simp [Digs,hz.1,hz.2])];refine Ev.step (f:=fun k=>placketref01_word.j2 k s (i:Int) true) (fun k=>?_) ?_
   ·simp only [placketref01_word.j1];rw [if_neg (by omega),if_pos (by omega),if_pos (by omega),if_pos hz.1,decide_eq_true (by omega)]
   ·refine Ev.step (f:=fun _=>some false) (fun k=>?_) (Ev.now _);simp only [placketref01_word.j2];rw [if_pos trivial]
  ·refine Ev.step (f:=fun k=>placketref01_word.j2 k s (i:Int) false) (fun k=>?_) ?_
   ·simp only [placketref01_word.j1];rw [if_neg (by omega),if_pos (by omega),if_pos (by omega)];by_cases h48:bt s (i:Int)=48
    ·rw [if_pos h48,decide_eq_false (by omega)]
    ·rw [if_neg h48]
   ·refine Ev.step (f:=fun k=>placketref01_word.l0 k s (i:Int)) (fun k=>?_) ?_
    ·simp only [placketref01_word.j2];rw [if_neg (by simp)]
    ·have:=word_loop s hs (s.size - i) i hi rfl;rw [show decide (Digs (1 < s.size) ((bytesOf s).drop i))=decide (allDig ((bytesOf s).drop i)) from by
      rw [decide_eq_decide];refine ⟨fun h=>h.1,fun h=>⟨h,by rw [hd];simp,?_⟩⟩;rw [hd];intro hh;simp at hh;exact hz hh]
     exact this
theorem word_ev:Ev (fun k=>placketref01_word.f k s) (wordS (bytesOf s)):=by
 unfold placketref01_word.f wordS;rw [bytesOf_length];rcases Nat.eq_zero_or_pos s.size with h0|h0
 ·have hn:bytesOf s = []:=List.eq_nil_of_length_eq_zero (by rw [bytesOf_length];exact h0);refine Ev.congr (f:=fun k=>placketref01_word.j0 k s 0 false) (fun k=>by rw [if_neg (by omega)]) ?_;refine Ev.step (f:=fun k=>placketref01_word.j1 k s ((0:Nat):Int)) (fun k=>?_) ?_
  ·simp only [placketref01_word.j0];rw [if_neg (by simp)];rfl
  ·have:=word_from s hs 0 (by omega);rw [List.drop_zero] at this;rw [if_neg (by rw [hn];simp)];exact this
 ·have hd:=bytes_drop s h0;rw [List.drop_zero] at hd;refine Ev.congr (f:=fun k=>placketref01_word.j0 k s 0 ((bt s ((0:Nat):Int)) == 45)) (fun k=>by rw [if_pos (by omega),if_pos (by omega)];rfl) ?_;by_cases hm:bt s ((0:Nat):Int)=45
  ·rw [show (bt s ((0:Nat):Int) == 45)=true from beq_iff_eq.2 hm,if_pos (by rw [hd,hm];rfl)];refine Ev.step (f:=fun k=>placketref01_word.j1 k s ((1:Nat):Int)) (fun k=>?_) ?_
   ·simp only [placketref01_word.j0];rw [if_pos trivial];rfl
   ·have:=word_from s hs 1 (by omega);rw [show (bytesOf s).tail=(bytesOf s).drop 1 by simp];exact this
  ·rw [show (bt s ((0:Nat):Int) == 45)=false from beq_eq_false_iff_ne.2 hm,if_neg (by rw [hd];simpa using hm)];refine Ev.step (f:=fun k=>placketref01_word.j1 k s ((0:Nat):Int)) (fun k=>?_) ?_
   ·simp only [placketref01_word.j0];rw [if_neg (by simp)];rfl
   ·have:=word_from s hs 0 (by omega);rw [List.drop_zero] at this;exact this
theorem refParse_loop (h0:0 < s.size) (d:Nat):∀ i v:Nat,i≤s.size→s.size - i=d→v≤9223372036854775808→(0 < i ∨ (bytesOf s).head? ≠ some 45)→allDig ((bytesOf s).drop i) →
  Ev (fun k=>placketref01_Parse.l0 k s (-(v:Int)) (s.size:Int) (i:Int)) (finS ((bt s ((0:Nat):Int)) == 45) (foldV v ((bytesOf s).drop i))):=by
 induction d with
 | zero=>
  intro i v hi hd hv hm ha;rw [bytes_end s (by omega)];refine Ev.step (f:=fun _=>some (finS ((bt s ((0:Nat):Int)) == 45) v)) (fun k=>?_) (Ev.now _);simp only [placketref01_Parse.l0];rw [if_neg (by omega),if_pos (by omega)];unfold finS;by_cases h45:bt s ((0:Nat):Int)=45
  ·rw [show bt s 0=45 from h45,if_pos rfl,h45,if_pos (by simp),if_neg (by omega)]
  ·rw [if_neg (show ¬ bt s 0=45 from h45),if_neg (show ¬ ((bt s ((0:Nat):Int) == 45)=true) by simpa using h45)];by_cases hl:v=9223372036854775808
   ·rw [if_pos (by omega),if_pos (by omega)]
   ·rw [if_neg (by omega),if_neg (by omega),w64 (by omega) (by omega)];congr 2;omega
 | succ d ih=>
  intro i v hi hd hv hm ha;(have hlt:i < s.size:=by omega);rw [bytes_drop s hlt] at ha ⊢;obtain ⟨hc,ha'⟩:=allDig_cons.1 ha;(have hne:¬ bt s (i:Int)=45:=by omega);(have hmod:(bt s (i:Int) - 48) % 256=bt s (i:Int) - 48:=by omega);by_cases hov:10 * v+(bt s (i:Int) - 48).toNat > 9223372036854775808
  ·have:=foldV_ge ((bytesOf s).drop (i+1)) (10 * v+(bt s (i:Int) - 48).toNat);rw [show foldV v (bt s (i:Int) :: (bytesOf s).drop (i+1))=foldV (10 * v+(bt s (i:Int) - 48).toNat) ((bytesOf s).drop (i+1)) from rfl,finS_over _ (by omega)];refine Ev.step (f:=fun _=>some (0,4)) (fun k=>?_) (Ev.now _);simp only [placketref01_Parse.l0];rw [if_pos (by omega),if_pos (by omega),if_pos (by omega),if_neg hne,hmod,if_pos];rw [tdiv_neg10 _ (by omega) (by omega)];omega
  ·have ih:=ih (i+1) (10 * v+(bt s (i:Int) - 48).toNat) (by omega) (by omega) (by omega) (.inl (by omega)) ha';refine Ev.step (f:=fun k=>placketref01_Parse.l0 k s (-((10 * v+(bt s (i:Int) - 48).toNat:Nat):Int)) (s.size:Int) ((i+1:Nat):Int)) (fun k=>?_) ih;simp only [placketref01_Parse.l0];rw [if_pos (by omega),if_pos (by omega),if_pos (by omega),if_neg hne,hmod,if_neg,i_next hlt hs]
   ·congr 1;unfold wrap64;omega
   ·rw [tdiv_neg10 _ (by omega) (by omega)];omega
theorem refParse_ev:Ev (fun k=>placketref01_Parse.f k s) (parseS (bytesOf s)):=by
 unfold placketref01_Parse.f;refine Ev.bind (word_ev s hs) ?_;rcases Nat.eq_zero_or_pos s.size with h0|h0
 ·have hn:bytesOf s = []:=List.eq_nil_of_length_eq_zero (by rw [bytesOf_length];exact h0);rw [hn];refine Ev.congr (f:=fun _=>some (0,2)) (fun k=>?_) ?_
  ·rw [if_neg (by simp [wordS,Digs])]
  ·(have:parseS []=(0,2):=by simp [parseS,Digs]);rw [this];exact Ev.now _
 have hd:=bytes_drop s h0;rw [List.drop_zero] at hd;(have hh:(bytesOf s).head? = some (bt s ((0:Nat):Int)):=by rw [hd];rfl);unfold parseS wordS;rw [bytesOf_length,hh];by_cases hm:bt s ((0:Nat):Int)=45
 ·rw [if_pos (by rw [hm]),if_pos (by rw [hm])];by_cases hD:Digs (1 < s.size) (bytesOf s).tail
  ·rw [if_pos hD];refine Ev.congr (f:=fun k=>placketref01_Parse.l0 k s 0 (s.size:Int) 0) (fun k=>by rw [if_pos (by simpa using hD)]) ?_;refine Ev.step (f:=fun k=>placketref01_Parse.l0 k s (-((0:Nat):Int)) (s.size:Int) ((1:Nat):Int)) (fun k=>?_) ?_
   ·simp only [placketref01_Parse.l0];rw [if_pos (by omega),if_pos (by omega),if_pos (by omega),if_pos (show bt s 0=45 from hm),show wrap64 (0+1)=1 by unfold wrap64;omega];rfl
   ·(have et:(bytesOf s).tail=(bytesOf s).drop 1:=by simp);rw [et] at hD ⊢;have:=refParse_loop s hs h0 (s.size - 1) 1 0 (by omega) rfl (by omega) (.inl (by omega)) hD.1;rw [hm] at this;exact this
  ·rw [if_neg hD];exact Ev.congr (f:=fun _=>some (0,2)) (fun k=>by rw [if_neg (by simpa using hD)]) (Ev.now _)
 ·rw [if_neg (by simpa using hm),if_neg (by simpa using hm)];by_cases hD:Digs (1 < s.size) (bytesOf s)
  ·rw [if_pos hD];refine Ev.congr (f:=fun k=>placketref01_Parse.l0 k s (-((0:Nat):Int)) (s.size:Int) ((0:Nat):Int)) (fun k=>by rw [if_pos (by simpa using hD)];rfl) ?_;have:=refParse_loop s hs h0 s.size 0 0 (by omega) rfl (by omega) (.inr (by rw [hh];simpa using hm)) (by rw [List.drop_zero];exact hD.1);rw [List.drop_zero,show (bt s ((0:Nat):Int) == 45)=false from beq_eq_false_iff_ne.2 hm] at this;exact this
  ·rw [if_neg hD];exact Ev.congr (f:=fun _=>some (0,2)) (fun k=>by rw [if_neg (by simpa using hD)]) (Ev.now _)
end
end Go.Proofs.YtkbjblhompkdkaaDoor.Pure
namespace Go.Proofs.YtkbjblhompkdkaaDoor.Pure
set_option linter.unusedSimpArgs false
open Go.RowKit Go.Proofs.YtkbjblhompkdkaaDoor.PA Go.Proofs.YtkbjblhompkdkaaDoorW.PrintWords Go.Proofs.YtkbjblhompkdkaaDoorW.PrintLast
section
variable (s:ByteArray)
theorem refvalue_some (k:Nat) (g:Bool) (c:Int) (h0:0≤c) (h1:c≤255):placketref02_value.f (k+2) c g=some ((hexV g c).getD 16):=by
 unfold placketref02_value.f;simp only [placketref02_value.j0,placketref02_value.j1,decide_eq_true_eq];by_cases a:48≤c∧c≤57
 ·rw [hexV_dig a,if_pos a.1,if_pos a.2,show (c - 48) % 256=c - 48 by omega];rfl
 ·by_cases b:97≤c∧c≤102
  ·rw [hexV_low b,if_pos (by omega),if_neg (by omega),if_pos b.1,if_pos b.2,show (c - 97+10) % 256=c - 87 by omega];rfl
  ·have hmain:(if g=true then (if c ≥ 65 then (if c≤70 then some ((c - 65+10) % 256) else some 16) else some 16) else some 16)=some ((hexV g c).getD 16):=by
    cases g with
    | false=>rw [hexV_not a b];rfl
    | true=>
     by_cases d:65≤c∧c≤70
     ·rw [hexV_great d,if_pos rfl,if_pos d.1,if_pos d.2,show (c - 65+10) % 256=c - 55 by omega];rfl
     ·rw [hexV_nott a b d,if_pos rfl];(repeat' split);all_goals first|rfl|(exfalso;omega)
   rw [← hmain];by_cases c1:c ≥ 48
   ·rw [if_pos c1,if_neg (by omega)];by_cases c2:c ≥ 97
    ·rw [if_pos c2,if_neg (by omega)]
    ·rw [if_neg c2,if_neg (by simp)]
   ·rw [if_neg c1,if_neg (by simp),if_neg (by omega),if_neg (by simp)]
theorem refescape_some (k:Nat) (c:Int):placketref02_escape.f (k+1) c=some (byLetterS c):=by
 unfold placketref02_escape.f byLetterS;simp only [placketref02_escape.j0];by_cases a:c=47
 ·subst a;simp
 by_cases b:c=34
 ·subst b;simp
 by_cases d:c=92
 ·subst d;simp
 by_cases e:c=110
 ·subst e;simp
 by_cases f:c=116
 ·subst f;simp
 by_cases g:c=114
 ·subst g;simp
 simp [a,b,d,e,f,g]
variable (hs:s.size≤140737488351232)
include hs
theorem refpair (i:Nat) (acc:List Int) (hi:i < s.size) (hacc:acc.length < 140737488355328) (R:ByteArray × Int × Int)
  (hR:∀ x,pairL s.size ((bytesOf s).drop (i+1)) (i+1) = .inl x→Ev (fun k=>placketref02_Unquote.l0 k s (acc++[x]) ((i+3:Nat):Int)) R)
  (hE:∀ p e,pairL s.size ((bytesOf s).drop (i+1)) (i+1) = .inr (p,e)→R=(⟨#[]⟩,(p:Int),e)) :
  Ev (fun k=>placketref02_Unquote.l1 k s acc (i:Int) 0 1) R:=by
 have w1:wrap64 ((i:Int)+1)=((i+1:Nat):Int):=i_next hi hs;(have w2:wrap64 ((i:Int)+2)=((i+2:Nat):Int):=by rw [w64 (by omega) (by omega)];omega);(have w3:wrap64 ((i:Int)+3)=((i+3:Nat):Int):=by rw [w64 (by omega) (by omega)];omega);(have u1:wrap64 ((1:Int)+1)=2:=by rw [w64 (by omega) (by omega)];omega);(have u2:wrap64 ((2:Int)+1)=3:=by rw [w64 (by omega) (by omega)];omega);refine Ev.succ (Ev.succ (Ev.succ ?_));simp only [placketref02_Unquote.l1,show (1:Int) < 3 by omega,if_true,w1];by_cases h1:i+1 < s.size
 ·rw [bytes_drop s h1] at hR hE;have hb1:=bt_range s ((i+1:Nat):Int);simp only [show ¬ ((i+1:Nat):Int) ≥ (s.size:Int) by omega,if_false,show (0:Int)≤((i+1:Nat):Int) by omega,show ((i+1:Nat):Int) < (s.size:Int) by omega,if_true,refvalue_some _ _ _ hb1.1 hb1.2,Option.bind_some,u1];cases hx:hexV true (bt s ((i+1:Nat):Int)) with
  | none=>
   simp only [Option.getD_none,show (16:Int) > 15 by omega,if_true];refine Ev.const ?_;rw [hE (i+1) 2];rcases hl:(bytesOf s).drop (i+1+1) with _|⟨b,r⟩ <;> simp only [pairL,hx]
  | some x=>
   have hxr:=hexV_range hx;simp only [Option.getD_some,show ¬ x > 15 by omega,if_false,show ((16 * 0+x) % 256:Int)=x by omega,show (2:Int) < 3 by omega,w2,if_true];by_cases h2:i+2 < s.size
   ·have hd2:=bytes_drop s h2;rw [show i+2=i+1+1 from rfl] at hd2;rw [hd2] at hR hE;have hb2:=bt_range s ((i+2:Nat):Int);refine Ev.succ ?_;simp only [show ¬ ((i+2:Nat):Int) ≥ (s.size:Int) by omega,if_false,show (0:Int)≤((i+2:Nat):Int) by omega,show ((i+2:Nat):Int) < (s.size:Int) by omega,if_true,refvalue_some _ _ _ hb2.1 hb2.2,Option.bind_some,u2];cases hy:hexV true (bt s ((i+2:Nat):Int)) with
    | none=>
     simp only [Option.getD_none,show (16:Int) > 15 by omega,if_true];refine Ev.const ?_;rw [hE (i+1+1) 2];simp only [pairL,hx,show ((i+1+1:Nat):Int)=((i+2:Nat):Int) from rfl,hy]
    | some y=>
     have hyr:=hexV_range hy;simp only [Option.getD_some,show ¬ y > 15 by omega,if_false,show ((16 * x+y) % 256:Int)=16 * x+y by omega,placketref02_Unquote.l1,show ¬ ((3:Int) < 3) by omega,hacc,if_true,w3];have:=hR (16 * x+y) (by simp only [pairL,hx,show ((i+1+1:Nat):Int)=((i+2:Nat):Int) from rfl,hy]);exact Ev.add this 1
   ·rw [bytes_end s (show s.size≤i+1+1 by omega)] at hE;simp only [show ((i+2:Nat):Int) ≥ (s.size:Int) by omega,if_true];refine Ev.const ?_;rw [hE s.size 10 (by simp only [pairL,hx])]
 ·rw [bytes_end s (show s.size≤i+1 by omega)] at hE;simp only [show ((i+1:Nat):Int) ≥ (s.size:Int) by omega,if_true];refine Ev.const ?_;rw [hE s.size 10 rfl]
theorem refunquote_loop (d:Nat):∀ (i:Nat) (acc:List Int),i≤s.size→s.size - i=d→acc.length≤i →
  Ev (fun k=>placketref02_Unquote.l0 k s acc (i:Int)) (resU (unqL s.size ((bytesOf s).drop i) i acc)):=by
 induction d using Nat.strongRecOn with
 | _ d ih=>
 intro i acc hi hd ha;by_cases hlt:i < s.size
 ·have hb:=bt_range s (i:Int);have hn:=i_next hlt hs;rw [bytes_drop s hlt];refine Ev.succ ?_;simp only [placketref02_Unquote.l0,show (i:Int) < (s.size:Int) by omega,show (0:Int)≤(i:Int) by omega,if_true,hn,show acc.length < 140737488355328 by omega];by_cases h34:bt s (i:Int)=34
  ·rw [h34,unqL_mark];simp only [if_true];exact Ev.now _
  simp only [h34,if_false];by_cases h32:bt s (i:Int) < 32
  ·rw [unqL_low _ _ _ _ h32];simp only [h32,if_true];exact Ev.now _
  simp only [h32,if_false];by_cases h92:bt s (i:Int)=92
  ·rw [h92];simp only [if_true];by_cases h1:i+1 < s.size
   ·have hb1:=bt_range s ((i+1:Nat):Int);rw [bytes_drop s h1];simp only [show ¬ ((i+1:Nat):Int)=(s.size:Int) by omega,show (0:Int)≤((i+1:Nat):Int) by omega,show ((i+1:Nat):Int) < (s.size:Int) by omega,if_true,if_false,i_next h1 hs];by_cases h120:bt s ((i+1:Nat):Int)=120
    ·rw [h120,unqL_hex];simp only [if_true];refine refpair s hs (i+1) acc h1 (by omega) _ ?_ ?_
     ·intro x hp;have hp':pairL s.size ((bytesOf s).drop (i+1+1)) (i+2) = .inl x:=hp;simp only [hp'];have hsz:i+4≤s.size:=by
       rcases Nat.lt_or_ge s.size (i+4) with h|h
       ·exfalso;by_cases h2:i+2 < s.size
        ·rw [bytes_drop s h2,bytes_end s (show s.size≤i+1+1+1 by omega)] at hp;simp only [pairL] at hp;split at hp <;> cases hp
        ·rw [bytes_end s (by omega)] at hp;cases hp
       ·exact h
      have:=ih (s.size - (i+4)) (by omega) (i+4) (acc++[x]) hsz rfl (by simp;omega);rw [List.drop_drop];exact this
     ·intro p e hp;have hp':pairL s.size ((bytesOf s).drop (i+1+1)) (i+2) = .inr (p,e):=hp;simp only [hp'];rfl
    ·rw [unqL_let _ _ _ _ h120];refine Ev.succ ?_;simp only [h120,if_false,refescape_some,Option.bind_some];by_cases hl:(byLetterS (bt s ((i+1:Nat):Int))).2=true
     ·simp only [hl,if_true];exact Ev.add (ih (s.size - (i+2)) (by omega) (i+2) (acc++[(byLetterS (bt s ((i+1:Nat):Int))).1]) (by omega) rfl (by simp;omega)) 1
     ·simp only [hl,if_false];exact Ev.now _
   ·rw [bytes_end s (show s.size≤i+1 by omega),unqL_end];simp only [show ((i+1:Nat):Int)=(s.size:Int) by omega,if_true];exact Ev.now _
  ·rw [unqL_plain _ _ _ _ h34 h32 h92];simp only [h92,if_false];exact ih (s.size - (i+1)) (by omega) (i+1) (acc++[bt s (i:Int)]) (by omega) rfl (by simp;omega)
 ·rw [bytes_end s (by omega),unqL_nil];refine Ev.succ ?_;simp only [placketref02_Unquote.l0,show ¬ (i:Int) < (s.size:Int) by omega,if_false];exact Ev.now _
theorem refunquote_ev:Ev (fun k=>placketref02_Unquote.f k s) (resU (unquoteL (bytesOf s))):=by
 unfold placketref02_Unquote.f;by_cases h0:s.size=0
 ·rw [bytes_nil h0];simp only [show (s.size:Int)=0 by omega,if_true];exact Ev.now _
 ·have hd:=bytes_drop s (show 0 < s.size by omega);rw [List.drop_zero] at hd;simp only [show ¬ (s.size:Int)=0 by omega,if_false,show (0:Int) < (s.size:Int) by omega,if_true];unfold unquoteL;rw [hd];simp only [];by_cases h34:bt s ((0:Nat):Int)=34
  ·simp only [h34,show bt s 0=34 from h34,if_true];have:=refunquote_loop s hs (s.size - 1) 1 [] (by omega) rfl (by simp);(have el:((bytesOf s).drop (0+1)).length+1=s.size:=by rw [List.length_drop,bytesOf_length];omega);rw [el];exact this
  ·simp only [h34,show ¬ bt s 0=34 from h34,if_false];exact Ev.now _
end
end Go.Proofs.YtkbjblhompkdkaaDoor.Pure
namespace Go.Proofs.YtkbjblhompkdkaaDoor.Pure
set_option linter.unusedSimpArgs false
open Go.RowKit Go.Proofs.YtkbjblhompkdkaaDoor.PA Go.Proofs.YtkbjblhompkdkaaDoorW.PrintWords Go.Proofs.YtkbjblhompkdkaaDoorW.PrintLast
section
variable (s:ByteArray) (hs:s.size≤140737488351232)
include hs
set_option maxHeartbeats 4000000 in
theorem refname_loop (h0:0 < s.size) (d:Nat):∀ i:Nat,i≤s.size→s.size - i=d→Ev (fun k=>placketref02_Name.l0 k s (s.size:Int) (i:Int)) (nameR (i == 0) ((bytesOf s).drop i)):=by
 induction d with
 | zero=>
  intro i hi hd;rw [bytes_end s (by omega)];refine Ev.succ ?_;simp only [placketref02_Name.l0,show ¬ ((i:Int) < (s.size:Int)) by omega,if_false,nameR,show (s.size:Int) > 0 by omega,decide_true];exact Ev.now _
 | succ d ih=>
  intro i hi hd;(have hlt:i < s.size:=by omega);have hn:=i_next hlt hs;have ih:=ih (i+1) (by omega) (by omega);rw [show (i+1 == 0)=false from rfl] at ih;rw [bytes_drop s hlt];refine Ev.succ ?_;simp only [placketref02_Name.l0,show (i:Int) < (s.size:Int) by omega,show (0:Int)≤(i:Int) by omega,if_true,hn];generalize bt s (i:Int)=c;by_cases hl:isLet c
  ·(have e:nameR (i == 0) (c :: (bytesOf s).drop (i+1))=nameR false ((bytesOf s).drop (i+1)):=by simp [nameR,hl]);rw [e];refine Ev.congr (fun k=>?_) ih;unfold isLet at hl;(repeat' split);all_goals first|rfl|(exfalso;omega)
  ·by_cases h0i:i=0
   ·subst h0i;(have e:nameR (0 == 0) (c :: (bytesOf s).drop (0+1))=false:=by simp [nameR,hl]);rw [e];refine Ev.congr (f:=fun _=>some false) (fun k=>?_) (Ev.now _);unfold isLet at hl;(repeat' split);all_goals first|rfl|(exfalso;omega)
   ·have hf:(i == 0)=false:=beq_eq_false_iff_ne.2 h0i;by_cases hd:isDig c
    ·(have e:nameR (i == 0) (c :: (bytesOf s).drop (i+1))=nameR false ((bytesOf s).drop (i+1)):=by simp [nameR,hf,hd]);rw [e];refine Ev.congr (fun k=>?_) ih;unfold isDig at hd;(repeat' split);all_goals first|rfl|(exfalso;omega)
    ·(have e:nameR (i == 0) (c :: (bytesOf s).drop (i+1))=false:=by simp [nameR,hl,hd]);rw [e];refine Ev.congr (f:=fun _=>some false) (fun k=>?_) (Ev.now _);unfold isDig at hd;unfold isLet at hl;(repeat' split);all_goals first|rfl|(exfalso;omega)
theorem refname_ev:Ev (fun k=>placketref02_Name.f k s) (nameS (bytesOf s)):=by
 unfold placketref02_Name.f nameS;by_cases h0:s.size=0
 ·rw [bytes_nil h0];refine Ev.succ ?_;simp only [placketref02_Name.l0,show ¬ (0:Int) < (s.size:Int) by omega,if_false,show ¬ (s.size:Int) > 0 by omega,decide_false];exact Ev.now _
 ·have hd:=bytes_drop s (show 0 < s.size by omega);rw [List.drop_zero] at hd;have:=refname_loop s hs (by omega) s.size 0 (by omega) (by omega);rw [List.drop_zero] at this;rw [show (bytesOf s).isEmpty=false by rw [hd];rfl];exact this
end
end Go.Proofs.YtkbjblhompkdkaaDoor.Pure
namespace Go.Proofs.YtkbjblhompkdkaaDoor
open Go.RowKit Go.Proofs.YtkbjblhompkdkaaDoor.PA Go.Proofs.YtkbjblhompkdkaaDoorW.PrintWords Go.Proofs.YtkbjblhompkdkaaDoorW.PrintLast Go.Proofs.YtkbjblhompkdkaaDoor.Pure
set_option linter.unusedVariables false
set_option linter.unusedSimpArgs false
def tokR (r:Pure.Tok ⊕ (Nat × Int)):Int × Int × Int × Int × ByteArray × Int × Int:=
 match r with
 | .inl t=>(t.kind,(t.at_:Int),(t.end_:Int),t.n,strOfNums t.text,0,0)
 | .inr (p,c)=>(0,0,0,0,⟨#[]⟩,(p:Int),c)
theorem refblank_some (c:Int):placketref13_Blank.f c=some (Pure.blank c):=by
 unfold placketref13_Blank.f Pure.blank;by_cases h1:c=32
 ·simp [h1]
 by_cases h2:c=9
 ·simp [h2]
 by_cases h3:c=10
 ·simp [h3]
 by_cases h4:c=13
 ·simp [h4]
 simp [h1,h2,h3,h4]
theorem refdigit13_some (c:Int):placketref13_digit.f c=some (digB c):=by
 by_cases h1:c ≥ 48 <;> by_cases h2:c≤57 <;> simp [placketref13_digit.f,digB,isDig,h1,h2] <;> omega
theorem take_all (P:Int→Bool) (l:List Int):∀ n,n≤l.length→(l.take n).all P=decide (n≤lead P l):=by
 induction l with
 | nil=>intro n hn;simp at hn;subst hn;simp
 | cons c r ih=>
  intro n hn;match n with
  | 0=>simp
  | n+1=>
   simp only [List.length_cons] at hn;rw [List.take_succ_cons,List.all_cons,ih n (by omega)];by_cases hc:P c=true
   ·(have e:lead P (c :: r)=lead P r+1:=by simp [lead,hc]);simp [e,hc]
   ·(have e:lead P (c :: r)=0:=by simp [lead,hc]);simp [e,hc]
theorem nameR_all (l:List Int):nameR false l=l.all inName:=by
 induction l with
 | nil=>rfl
 | cons c r ih=>
  simp only [nameR,List.all_cons,ih,inName];congr 1;simp
theorem nameS_cons (c:Int) (r:List Int):nameS (c :: r)=(decide (isLet c) && r.all inName):=by
 simp [nameS,nameR,nameR_all]
section
variable (s:ByteArray) (hs:s.size≤140737488351232)
include hs
theorem refnumber_tail {p q L:Nat} (hq:p+1+L=q) (hqs:q≤s.size) :
  Ev (fun k=>if 0≤(p:Int) then (if (p:Int)≤(q:Int) then (if (q:Int)≤(s.size:Int) then ((placketref01_Parse.f k (s.extract (p:Int).toNat (q:Int).toNat)).bind fun bt155=>(if bt155.2=0 then (some (3,(p:Int),(q:Int),bt155.1,(⟨#[]⟩:ByteArray),0,0)) else (some (0,0,0,0,(⟨#[]⟩:ByteArray),(p:Int),bt155.2)))) else (none)) else (none)) else (none))
   (tokR (numQ p L (parseS (bt s (p:Int) :: ((bytesOf s).drop (p+1)).take L)))):=by
 refine Ev.congr (f:=fun k=>(placketref01_Parse.f k (s.extract p q)).bind fun bt155=>(if bt155.2=0 then (some (3,(p:Int),(q:Int),bt155.1,(⟨#[]⟩:ByteArray),0,0)) else (some (0,0,0,0,(⟨#[]⟩:ByteArray),(p:Int),bt155.2)))) (fun k=>?_) ?_
 ·rw [if_pos (by omega),if_pos (by omega),if_pos (by omega),Int.toNat_natCast,Int.toNat_natCast]
 refine Ev.bind (refParse_ev (s.extract p q) (by simp;omega)) ?_;rw [← hq,bytes_word s p L (by omega)];generalize parseS (bt s (p:Int) :: ((bytesOf s).drop (p+1)).take L)=v;unfold numQ;by_cases h0:v.2=0
 ·refine Ev.congr (f:=fun _=>some (tokR (.inl ⟨3,p,p+1+L,v.1,[]⟩))) (fun k=>?_) (by rw [if_pos h0];exact Ev.now _);rw [if_pos h0];rfl
 ·refine Ev.congr (f:=fun _=>some (tokR (.inr (p,v.2)))) (fun k=>?_) (by rw [if_neg h0];exact Ev.now _);rw [if_neg h0];rfl
theorem refnumber_loop (p:Nat) (d:Nat):∀ q:Nat,q≤s.size→s.size - q=d→p+1≤q→p+1+lead digB ((bytesOf s).drop (p+1))=q+lead digB ((bytesOf s).drop q) →
  Ev (fun k=>placketref13_number.l0 k s (p:Int) (q:Int)) (tokR (numQ p (lead digB ((bytesOf s).drop (p+1))) (parseS (bt s (p:Int) :: ((bytesOf s).drop (p+1)).take (lead digB ((bytesOf s).drop (p+1))))))):=by
 induction d with
 | zero=>
  intro q hq hd hpq hl;rw [lead_end _ s (show s.size≤q by omega),Nat.add_zero] at hl;refine Ev.succ ?_;simp only [placketref13_number.l0];refine Ev.congr (fun k=>?_) (refnumber_tail s hs (show p+1+lead digB ((bytesOf s).drop (p+1))=q by omega) (by omega));rw [if_neg (by omega)]
 | succ d ih=>
  intro q hq hd hpq hl;(have hql:q < s.size:=by omega);refine Ev.succ ?_;simp only [placketref13_number.l0,refdigit13_some,Option.bind_some];cases hc:digB (bt s (q:Int)) with
  | true=>
   refine Ev.congr (fun k=>?_) (ih (q+1) (by omega) (by omega) (by omega) (by rw [hl,lead_in _ s hql hc];omega));rw [if_pos (by omega),if_pos (by omega),if_pos rfl,i_next hql hs]
  | false=>
   rw [lead_out _ s hql hc,Nat.add_zero] at hl;refine Ev.congr (fun k=>?_) (refnumber_tail s hs (show p+1+lead digB ((bytesOf s).drop (p+1))=q by omega) (by omega));rw [if_pos (by omega),if_pos (by omega),if_neg (by decide)]
theorem refnumber_ev (p:Nat) (hp:p < s.size):Ev (fun k=>placketref13_number.f k s (p:Int)) (tokR (numQ p (lead digB ((bytesOf s).drop (p+1))) (parseS (bt s (p:Int) :: ((bytesOf s).drop (p+1)).take (lead digB ((bytesOf s).drop (p+1))))))):=by
 unfold placketref13_number.f;rw [i_next hp hs];exact refnumber_loop s hs p _ (p+1) (by omega) rfl (by omega) rfl
end
theorem refsigns:placketref13_Signs.f=some signsB:=by kernel_rfl
theorem refstarts_some (s y:ByteArray) (hs:s.size≤140737488351232) (p:Nat) (hp:p≤s.size) (hy:y.size≤2):placketref13_starts.f s (p:Int) y=some ((bytesOf y).isPrefixOf ((bytesOf s).drop p)):=by
 have h:=prefix_eq s y p hp;unfold placketref13_starts.f;rw [w64 (by omega) (by omega),w64 (by omega) (by omega)];by_cases hf:p+y.size≤s.size
 ·rw [if_pos (by omega),if_pos (by omega),if_pos (by omega),if_pos (by omega)];congr 1;rw [Bool.eq_iff_iff,h,beq_iff_eq,toList_inj,show ((p:Int)+(y.size:Int)).toNat=p+y.size by omega,Int.toNat_natCast];simp [hf]
 ·rw [if_neg (by omega)];congr 1;symm;rw [Bool.eq_false_iff];exact fun e=>hf (h.1 e).1
theorem rdB (i:Nat) (y:ByteArray) (h:signsB[i]? = some y):rdOf ByteArray.empty signsB (i:Int)=y:=by
 simp [rdOf,h]
section
variable (s:ByteArray) (hs:s.size≤140737488351232)
include hs
theorem refsign_loop (p:Nat) (hp:p < s.size) (d:Nat):∀ i:Nat,i≤23→23 - i=d→NotSign ((bytesOf s).drop p) i →
  Ev (fun k=>placketref13_Next.l2 k s (p:Int) signsB 23 (i:Int)) (tokR (signR p ((bytesOf s).drop p))):=by
 induction d with
 | zero=>
  intro i hi hd hn;(have:i=23:=by omega);subst this;rw [sign_miss hn];refine Ev.succ ?_;refine Ev.congr (f:=fun _=>some (tokR (.inr (p,2)))) (fun k=>?_) (Ev.now _);simp only [placketref13_Next.l2];rw [if_neg (by omega)];rfl
 | succ d ih=>
  intro i hi hd hn;(have hi2:i < 23:=by omega);obtain ⟨y,hy⟩:∃ y,signsB[i]? = some y:=⟨_,List.getElem?_eq_getElem (show i < signsB.length by simpa [signsB] using hi2)⟩;(have hx:signsL[i]? = some (bytesOf y):=by rw [← signs_bytes,List.getElem?_map,hy];rfl);have hy2:y.size≤2:=by
   have:=(signs_pos _ (List.mem_of_getElem? hx)).2;rwa [bytesOf_length] at this
  refine Ev.succ ?_;simp only [placketref13_Next.l2,rdB i y hy,refstarts_some s y hs p (by omega) hy2,Option.bind_some];cases hc:(bytesOf y).isPrefixOf ((bytesOf s).drop p) with
  | true=>
   rw [sign_hit hn hx hc];refine Ev.congr (f:=fun _=>some (tokR (.inl ⟨1,p,p+(bytesOf y).length,0,bytesOf y⟩))) (fun k=>?_) (Ev.now _);have:=((prefix_eq s y p (by omega)).1 hc).1;rw [if_pos (by omega),if_pos (by omega),if_pos (show (i:Int) < (signsB.length:Int) by simp [signsB];omega),if_pos rfl,w64 (by omega) (by omega)];simp [tokR,bytesOf_length,strOfNums_bytesOf]
  | false=>
   refine Ev.congr (fun k=>?_) (ih (i+1) (by omega) (by omega) (hn.next hx hc));rw [if_pos (by omega),if_pos (by omega),if_pos (show (i:Int) < (signsB.length:Int) by simp [signsB];omega),if_neg (by decide),i_next (n:=23) hi2 (by decide)]
theorem refword_end (p q:Nat) (hpq:p < q) (hq:q≤s.size):Ev (fun k=>placketref13_Next.j5 k s (p:Int) (q:Int)) (tokR (.inl ⟨2,p,q,0,((bytesOf s).drop p).take (q - p)⟩)):=by
 have _:=hs;refine Ev.succ ?_;refine Ev.congr (f:=fun _=>some (tokR (.inl ⟨2,p,q,0,((bytesOf s).drop p).take (q - p)⟩))) (fun k=>?_) (Ev.now _);simp only [placketref13_Next.j5];rw [if_pos (by omega),if_pos (by omega),if_pos (by omega),if_pos (by omega)];have e:=bytes_part s p (q - p) (by omega);rw [show p+(q - p)=q by omega] at e;simp only [tokR,Int.toNat_natCast];rw [← e,strOfNums_bytesOf]
theorem refsign_end (p:Nat) (hp:p < s.size):Ev (fun k=>placketref13_Next.j5 k s (p:Int) (p:Int)) (tokR (signR p ((bytesOf s).drop p))):=by
 refine Ev.succ ?_;simp only [placketref13_Next.j5,refsigns,Option.bind_some];refine Ev.congr (fun k=>?_) (refsign_loop s hs p hp 23 0 (by omega) rfl (fun j x h=>absurd h (by omega)));rw [if_neg (by omega)];rfl
theorem refname_at (p q:Nat) (hpq:p≤q) (hq:q < s.size):Ev (fun k=>placketref02_Name.f k (s.extract p (q+1))) (decide (isLet (bt s (p:Int))) && decide (q - p≤lead inName ((bytesOf s).drop (p+1)))):=by
 have h:=refname_ev (s.extract p (q+1)) (by simp;omega);have e:=bytes_word s p (q - p) (by omega);rw [show p+1+(q - p)=q+1 by omega] at e;rw [e,nameS_cons,take_all inName _ _ (by rw [List.length_drop,bytesOf_length];omega)] at h;exact h
theorem refword_loop (p:Nat) (hp:p < s.size) (hl:isLet (bt s (p:Int))) (d:Nat):∀ q:Nat,q≤s.size→s.size - q=d→p≤q→q≤p+1+lead inName ((bytesOf s).drop (p+1)) →
  Ev (fun k=>placketref13_Next.l1 k s (p:Int) (q:Int)) (tokR (.inl ⟨2,p,p+1+lead inName ((bytesOf s).drop (p+1)),0,bt s (p:Int) :: ((bytesOf s).drop (p+1)).take (lead inName ((bytesOf s).drop (p+1)))⟩)):=by
 have hle:=lead_le inName ((bytesOf s).drop (p+1));rw [List.length_drop,bytesOf_length] at hle;have hend:Ev (fun k=>placketref13_Next.j5 k s (p:Int) ((p+1+lead inName ((bytesOf s).drop (p+1)):Nat):Int)) (tokR (.inl ⟨2,p,p+1+lead inName ((bytesOf s).drop (p+1)),0,bt s (p:Int) :: ((bytesOf s).drop (p+1)).take (lead inName ((bytesOf s).drop (p+1)))⟩)):=by
  have:=refword_end s hs p (p+1+lead inName ((bytesOf s).drop (p+1))) (by omega) (by omega);rw [bytes_drop s hp,show p+1+lead inName ((bytesOf s).drop (p+1)) - p=lead inName ((bytesOf s).drop (p+1))+1 by omega,List.take_succ_cons] at this;exact this
 induction d with
 | zero=>
  intro q hq hd hpq hql;(have e:q=p+1+lead inName ((bytesOf s).drop (p+1)):=by omega);refine Ev.succ ?_;simp only [placketref13_Next.l1];refine Ev.congr (fun k=>?_) hend;rw [if_neg (by omega),← e]
 | succ d ih=>
  intro q hq hd hpq hql;(have hqs:q < s.size:=by omega);refine Ev.succ ?_;have hn:=refname_at s hs p q hpq hqs;refine Ev.congr (f:=fun k=>(placketref02_Name.f k (s.extract p (q+1))).bind fun t172=>(if t172=true then (placketref13_Next.l1 k s (p:Int) ((q+1:Nat):Int)) else (placketref13_Next.j5 k s (p:Int) (q:Int)))) (fun k=>?_) ?_
  ·simp only [placketref13_Next.l1];rw [if_pos (by omega),if_pos (by omega),i_next hqs hs,if_pos (by omega),if_pos (by omega),Int.toNat_natCast,Int.toNat_natCast]
  refine Ev.bind hn ?_;by_cases hc:q - p≤lead inName ((bytesOf s).drop (p+1))
  ·refine Ev.congr (fun k=>?_) (ih (q+1) (by omega) (by omega) (by omega) (by omega));rw [if_pos (by simp [hl,hc])]
  ·(have e:q=p+1+lead inName ((bytesOf s).drop (p+1)):=by omega);refine Ev.congr (fun k=>?_) hend;rw [if_neg (by simp [hl,hc]),← e]
theorem refnoword (p:Nat) (hp:p < s.size) (hl:¬ isLet (bt s (p:Int))):Ev (fun k=>placketref13_Next.l1 k s (p:Int) (p:Int)) (tokR (signR p ((bytesOf s).drop p))):=by
 refine Ev.succ ?_;have hn:=refname_at s hs p p (Nat.le_refl _) hp;refine Ev.congr (f:=fun k=>(placketref02_Name.f k (s.extract p (p+1))).bind fun t172=>(if t172=true then (placketref13_Next.l1 k s (p:Int) ((p+1:Nat):Int)) else (placketref13_Next.j5 k s (p:Int) (p:Int)))) (fun k=>?_) ?_
 ·simp only [placketref13_Next.l1];rw [if_pos (by omega),if_pos (by omega),i_next hp hs,if_pos (by omega),if_pos (by omega),Int.toNat_natCast,Int.toNat_natCast]
 refine Ev.bind hn ?_;refine Ev.congr (fun k=>?_) (refsign_end s hs p hp);rw [if_neg (by simp [hl])]
theorem refnext_at (p:Nat) (hp:p≤s.size):Ev (fun k=>placketref13_Next.j2 k s (p:Int)) (tokR (tokAt p ((bytesOf s).drop p))):=by
 refine Ev.succ ?_;simp only [placketref13_Next.j2];by_cases he:p=s.size
 ·rw [bytes_end s (by omega)];refine Ev.congr (f:=fun _=>some (tokR (.inl ⟨0,p,p,0,[]⟩))) (fun k=>?_) (Ev.now _);rw [if_pos (by omega)];rfl
 (have hlt:p < s.size:=by omega);have hX:=bytes_drop s hlt;by_cases h34:bt s (p:Int)=34
 ·rw [tokAt_text p _ (by rw [hX,h34];rfl)];unfold textR textQ;refine Ev.congr (f:=fun k=>(placketref02_Unquote.f k (s.extract p s.size)).bind fun bt161=>(if bt161.2.2=0 then (some (4,(p:Int),wrap64 ((p:Int)+bt161.2.1),0,bt161.1,0,0)) else (some (0,0,0,0,(⟨#[]⟩:ByteArray),wrap64 ((p:Int)+bt161.2.1),bt161.2.2)))) (fun k=>?_) ?_
  ·rw [if_neg (by omega),if_pos (by omega),if_pos (by omega),if_pos h34,if_pos (by omega),Int.toNat_natCast]
  refine Ev.bind (refunquote_ev (s.extract p s.size) (by simp;omega)) ?_;rw [bytes_from s p hp];have hl:=(unquoteL_len ((bytesOf s).drop p)).1;rw [List.length_drop,bytesOf_length] at hl;generalize unquoteL ((bytesOf s).drop p)=r at *
  unfold resU;simp only [];by_cases h0:r.2.2=0
  ·refine Ev.congr (f:=fun _=>some (tokR (.inl ⟨4,p,p+r.2.1,0,r.1⟩))) (fun k=>?_) (by rw [if_pos h0];exact Ev.now _);rw [if_pos h0,w64 (by omega) (by omega)];simp [tokR]
  ·refine Ev.congr (f:=fun _=>some (tokR (.inr (p+r.2.1,r.2.2)))) (fun k=>?_) (by rw [if_neg h0];exact Ev.now _);rw [if_neg h0,w64 (by omega) (by omega)];simp [tokR]
 have hnum:(bt s (p:Int)=45 ∨ isDig (bt s (p:Int)))→¬ isLet (bt s (p:Int)):=by
  unfold isDig isLet;omega
 have hj3:∀ b:Bool,(b=true ↔ (bt s (p:Int)=45 ∨ isDig (bt s (p:Int))))→Ev (fun k=>placketref13_Next.j3 k s (p:Int) b) (tokR (tokAt p ((bytesOf s).drop p))):=by
  intro b hb;refine Ev.succ ?_;simp only [placketref13_Next.j3];by_cases hd:bt s (p:Int)=45 ∨ isDig (bt s (p:Int))
  ·rw [hX,tokAt_num p _ _ h34 (hnum hd) hd];refine Ev.congr (f:=fun k=>(placketref13_number.f k s (p:Int)).bind fun bt165=>(some (bt165.1,bt165.2.1,bt165.2.2.1,bt165.2.2.2.1,bt165.2.2.2.2.1,bt165.2.2.2.2.2.1,bt165.2.2.2.2.2.2))) (fun k=>?_) ?_
   ·rw [if_pos (hb.2 hd)]
   ·exact Ev.bind (refnumber_ev s hs p hlt) (Ev.now _)
  ·have hbf:¬ b=true:=fun e=>hd (hb.1 e);by_cases hl:isLet (bt s (p:Int))
   ·rw [hX,tokAt_word p _ _ h34 hl];refine Ev.congr (fun k=>?_) (refword_loop s hs p hlt hl (s.size - p) p hp rfl (Nat.le_refl _) (by omega));rw [if_neg hbf]
   ·rw [hX,tokAt_sign p _ _ h34 hl hd,← hX];refine Ev.congr (fun k=>?_) (refnoword s hs p hlt hl);rw [if_neg hbf]
 by_cases h45:bt s (p:Int)=45
 ·refine Ev.congr (fun k=>?_) (hj3 true (by simp [h45]));rw [if_neg (by omega),if_pos (by omega),if_pos (by omega),if_neg h34,if_pos h45]
 ·refine Ev.congr (fun k=>?_) (hj3 (digB (bt s (p:Int))) (by simp [digB,h45]));rw [if_neg (by omega),if_pos (by omega),if_pos (by omega),if_neg h34,if_neg h45,refdigit13_some,Option.bind_some]
theorem refskip_loop (a:Nat) (d:Nat):∀ p:Nat,p≤s.size→s.size - p=d→a+lead Pure.blank ((bytesOf s).drop a)=p+lead Pure.blank ((bytesOf s).drop p)→Ev (fun k=>placketref13_Next.l0 k s (p:Int)) (tokR (nextS (bytesOf s) a)):=by
 induction d with
 | zero=>
  intro p hp hd hl;rw [lead_end Pure.blank s (i:=p) (by omega)] at hl;rw [nextS_at _ a p hl];refine Ev.succ ?_;simp only [placketref13_Next.l0];refine Ev.congr (fun k=>?_) (refnext_at s hs p hp);rw [if_neg (by omega)]
 | succ d ih=>
  intro p hp hd hl;(have hlt:p < s.size:=by omega);refine Ev.succ ?_;simp only [placketref13_Next.l0,refblank_some,Option.bind_some];cases hc:Pure.blank (bt s (p:Int)) with
  | true=>
   refine Ev.congr (fun k=>?_) (ih (p+1) (by omega) (by omega) (by rw [hl,lead_in _ s hlt hc];omega));rw [if_pos (by omega),if_pos (by omega),if_pos rfl,i_next hlt hs]
  | false=>
   rw [lead_out _ s hlt hc] at hl;rw [nextS_at _ a p hl];refine Ev.congr (fun k=>?_) (refnext_at s hs p hp);rw [if_pos (by omega),if_pos (by omega),if_neg (by decide)]
theorem refnext_ev (a:Int):Ev (fun k=>placketref13_Next.f k s a) (tokR (nextI (bytesOf s) a)):=by
 unfold placketref13_Next.f nextI;rw [bytesOf_length];by_cases h0:a < 0
 ·rw [if_pos (.inl h0)];simp only [if_pos h0];refine Ev.succ ?_;refine Ev.congr (f:=fun _=>some (tokR (.inr (0,1)))) (fun k=>?_) (Ev.now _);simp only [placketref13_Next.j0];rfl
 simp only [if_neg h0];refine Ev.succ ?_;simp only [placketref13_Next.j0];by_cases h1:a > (s.size:Int)
 ·rw [if_pos (.inr h1)];refine Ev.congr (f:=fun _=>some (tokR (.inr (0,1)))) (fun k=>?_) (Ev.now _);rw [if_pos (by simp [h1])];rfl
 ·rw [if_neg (show ¬ (a < 0 ∨ a > (s.size:Int)) by omega)];obtain ⟨n,rfl⟩:=Int.eq_ofNat_of_zero_le (show 0≤a by omega);refine Ev.congr (fun k=>?_) (refskip_loop s hs n _ n (by omega) rfl rfl);rw [if_neg (by simp;omega)]
end
end Go.Proofs.YtkbjblhompkdkaaDoor
namespace Go.Proofs.YtkbjblhompkdkaaDoor
open Go.RowKit Go.Proofs.YtkbjblhompkdkaaDoor.PA Go.Proofs.YtkbjblhompkdkaaDoor.PB Go.Proofs.YtkbjblhompkdkaaDoor.PC Go.Proofs.YtkbjblhompkdkaaDoorW.PrintWords Go.Proofs.YtkbjblhompkdkaaDoorW.PrintLast
set_option linter.unusedVariables false
set_option linter.unusedSimpArgs false
def RFt (w:World) (b:Nat) (s:ByteArray):Pure.St→Prop
 | .inl a=>a≤s.size∧∃ x:Int,w.heap[b]? = some (.cells #[.string s,.int .i64 (a:Int),.int .i64 x,.int .i64 0] 98 (0,0))
 | .inr (p,c)=>c ≠ 0∧∃ y:Int,w.heap[b]? = some (.cells #[.string s,.int .i64 y,.int .i64 (p:Int),.int .i64 c] 98 (0,0))
theorem RFt.blk {w:World} {b:Nat} {s:ByteArray} {st:Pure.St} (h:RFt w b s st):∃ cs,w.heap[b]? = some (.cells cs 98 (0,0)):=by
 cases st with
 | inl a=>obtain ⟨-,x,h⟩:=h;exact ⟨_,h⟩
 | inr e=>obtain ⟨-,x,h⟩:=h;exact ⟨_,h⟩
theorem RFt.lt {w:World} {b:Nat} {s:ByteArray} {st:Pure.St} (h:RFt w b s st):b < w.heap.size:=by
 obtain ⟨cs,h⟩:=h.blk;exact blk_lt h
theorem RFt.move {w w':World} {b:Nat} {s:ByteArray} {st:Pure.St} (h:RFt w b s st) (hm:∀ o,w.heap[b]? = some o→w'.heap[b]? = some o):RFt w' b s st:=by
 cases st with
 | inl a=>obtain ⟨h1,x,h⟩:=h;exact ⟨h1,x,hm _ h⟩
 | inr e=>obtain ⟨h1,x,h⟩:=h;exact ⟨h1,x,hm _ h⟩
theorem RFt.below {w w':World} {b:Nat} {s:ByteArray} {st:Pure.St} (h:RFt w b s st) (hb:Below w.heap.size w w'):RFt w' b s st:=h.move (fun _ k=>blk_below k hb)
theorem carryF {w0 w w':World} {b:Nat} {s:ByteArray} {st:Pure.St} (h1:RowKit.Hid (Step w0 w b)) (h2:RowKit.Hid (RFt w b s st)) (h3:RowKit.Hid (Signs w)) (hb:Below w.heap.size w w'):RowKit.Hid (Step w0 w' b)∧RowKit.Hid (RFt w' b s st)∧RowKit.Hid (Signs w'):=
  ⟨Lib.hid (h1.out.trans (Step.of_below hb h2.out.lt)),Lib.hid (h2.out.below hb),Lib.hid (h3.out.below hb (Nat.le_refl _))⟩
theorem RFt.far {w:World} {b g:Nat} {s:ByteArray} {st:Pure.St} (j:Nat) (v:Value) (hne:b ≠ g) (h:RFt w b s st) (_h1:∃ k n,w.cell? ⟨g,1,none⟩=some (.int k n)):RFt (w.setCell ⟨g,j,none⟩ v) b s st:=h.move (fun _ k=>far1 j v hne k)
theorem RFt.set5 {W:World} {b g:Nat} {s:ByteArray} {st:Pure.St} {t:TypeId} {cs:Array Value} (x0 x1 x2 x3 x4:Value) (hne:b ≠ g) (h:RFt W b s st) (_hg:W.heap[g]? = some (.cells cs t (0,0))) :
  RFt (((((W.setCell ⟨g,0,none⟩ x0).setCell ⟨g,1,none⟩ x1).setCell ⟨g,2,none⟩ x2).setCell ⟨g,3,none⟩ x3).setCell ⟨g,4,none⟩ x4) b s st:=h.move (fun _ k=>far5 _ _ _ _ _ hne k)
def bareW (w:World):World:={ w with heap:=#[] }
theorem bareW_below (w:World):Below (bareW w).heap.size (bareW w) w:=⟨rfl,rfl,rfl,Nat.zero_le _,fun k hk=>by simp [bareW] at hk⟩
theorem step_of {w w':World} {b:Nat} (hb:b < w.heap.size) (h1:Below (bareW w).heap.size (bareW w) w') (h2:KeepBut w w' b none):Step w w' b:=
 ⟨⟨h1.os,h1.tape,h1.output,h2.1,fun k hk=>h2.2 k (Nat.lt_trans hk hb) (Nat.ne_of_lt hk) (by simp)⟩,h2⟩
theorem fnext_calls (s:ByteArray) (b:Nat) (st:Pure.St) (w:World) (hs:Signs w) (hsz:s.size≤140737488351232) (h:RFt w b s st) :
  Calls Tryd.prog 73 #[.pointer (some ⟨b,0,none⟩)] w fun e w'=>e = .returned (tokV (Pure.nx (bytesOf s) st).1)∧RFt w' b s (Pure.nx (bytesOf s) st).2∧Step w w' b:=by
 have hlt:=h.lt;cases st with
 | inr e=>
  obtain ⟨p,c⟩:=e;obtain ⟨hc,y,hb⟩:=h;refine (placketref16_reader_next.calls 0 b s y p c 0 0 0 0 ⟨#[]⟩ s y p c (bareW w) w ⟨hb,Nat.zero_le _⟩ (bareW_below w) (by unfold placketref16_reader_next.f;rw [if_neg hc])).mono ?_;rintro e w' ⟨rfl,hi,h1,h2⟩;exact ⟨rfl,⟨hc,y,hi.1⟩,step_of hlt h1 h2⟩
 | inl a=>
  obtain ⟨ha,x,hb⟩:=h;obtain ⟨k,hk⟩:=refnext_ev s hsz (a:Int);have hk:=hk k (Nat.le_refl _);dsimp only at hk;rw [next_at ha] at hk;cases hr:Pure.nextS (bytesOf s) a with
  | inl t=>
   rw [hr] at hk;(have e:Pure.nx (bytesOf s) (.inl a)=(t,.inl t.end_):=by simp only [Pure.nx,hr]);have hok:=(Pure.nextS_ok (by rw [bytesOf_length];exact ha) hr).2.1;rw [bytesOf_length] at hok;rw [e];refine (placketref16_reader_next.calls k b s a x 0 t.kind t.at_ t.end_ t.n (strOfNums t.text) s t.end_ x 0 (bareW w) w ⟨hb,Nat.zero_le _⟩ (bareW_below w) (by unfold placketref16_reader_next.f;rw [if_pos rfl,hk];rfl)).mono ?_;rintro e w' ⟨rfl,hi,h1,h2⟩;exact ⟨rfl,⟨hok,x,hi.1⟩,step_of hlt h1 h2⟩
  | inr pc=>
   obtain ⟨p,c⟩:=pc;rw [hr] at hk;have hc:=(Pure.nextS_bad (by rw [bytesOf_length];exact ha) hr).2;(have e:Pure.nx (bytesOf s) (.inl a)=(Pure.tok0,.inr (p,c)):=by simp only [Pure.nx,hr]);rw [e];refine (placketref16_reader_next.calls k b s a x 0 0 0 0 0 ⟨#[]⟩ s a p c (bareW w) w ⟨hb,Nat.zero_le _⟩ (bareW_below w) (by unfold placketref16_reader_next.f;rw [if_pos rfl,hk];simp only [tokR,Option.bind_some];rw [if_neg hc])).mono ?_;rintro e w' ⟨rfl,hi,h1,h2⟩;exact ⟨rfl,⟨hc,a,hi.1⟩,step_of hlt h1 h2⟩
theorem fbad_calls (s:ByteArray) (b:Nat) (st:Pure.St) (t:Pure.Tok) (w:World) (hsz:s.size≤140737488351232) (h:RFt w b s st) :
  Calls Tryd.prog 75 #[.pointer (some ⟨b,0,none⟩),tokV t] w fun e w'=>e = .returned (.tuple #[])∧RFt w' b s (Pure.bd (bytesOf s) t st)∧Step w w' b:=by
 have hlt:=h.lt;cases st with
 | inr e=>
  obtain ⟨p,c⟩:=e;obtain ⟨hc,y,hb⟩:=h;(have hf:∀ p2 c2,placketref16_reader_fail.f s y p c p2 c2=some (s,y,(p:Int),c):=fun p2 c2=>by unfold placketref16_reader_fail.f;rw [if_neg hc]);refine (placketref16_reader_wrong.calls b s y p c t.kind t.at_ t.end_ t.n (strOfNums t.text) s y p c (bareW w) w ⟨hb,Nat.zero_le _⟩ (bareW_below w) (by unfold placketref16_reader_wrong.f;split <;> simp only [hf,Option.bind_some])).mono ?_;rintro e w' ⟨rfl,hi,h1,h2⟩;exact ⟨rfl,⟨hc,y,hi.1⟩,step_of hlt h1 h2⟩
 | inl a=>
  obtain ⟨ha,x,hb⟩:=h;by_cases h0:t.kind=0
  ·(have e:Pure.bd (bytesOf s) t (.inl a) = .inr (s.size,10):=by simp [Pure.bd,Pure.badE,h0,bytesOf_length]);rw [e];refine (placketref16_reader_wrong.calls b s a x 0 t.kind t.at_ t.end_ t.n (strOfNums t.text) s a s.size 10 (bareW w) w ⟨hb,Nat.zero_le _⟩ (bareW_below w) (by unfold placketref16_reader_wrong.f;rw [if_pos h0];rfl)).mono ?_;rintro e w' ⟨rfl,hi,h1,h2⟩;exact ⟨rfl,⟨by decide,a,hi.1⟩,step_of hlt h1 h2⟩
  ·(have e:Pure.bd (bytesOf s) t (.inl a) = .inr (t.at_,2):=by simp [Pure.bd,Pure.badE,h0]);rw [e];refine (placketref16_reader_wrong.calls b s a x 0 t.kind t.at_ t.end_ t.n (strOfNums t.text) s a t.at_ 2 (bareW w) w ⟨hb,Nat.zero_le _⟩ (bareW_below w) (by unfold placketref16_reader_wrong.f;rw [if_neg h0];rfl)).mono ?_;rintro e w' ⟨rfl,hi,h1,h2⟩;exact ⟨rfl,⟨by decide,a,hi.1⟩,step_of hlt h1 h2⟩
theorem ffail_calls (s:ByteArray) (b a p:Nat) (c:Int) (w:World) (hc:c ≠ 0) (h:RFt w b s (.inl a)) :
  Calls Tryd.prog 76 #[.pointer (some ⟨b,0,none⟩),.int .i64 (p:Int),.int .i64 c] w fun e w'=>e = .returned (.tuple #[])∧RFt w' b s (.inr (p,c))∧Step w w' b:=by
 have hlt:=h.lt;obtain ⟨ha,x,hb⟩:=h;refine (placketref16_reader_fail.calls b s a x 0 p c s a p c (bareW w) w ⟨hb,Nat.zero_le _⟩ (bareW_below w) rfl).mono ?_;rintro e w' ⟨rfl,hi,h1,h2⟩;exact ⟨rfl,⟨hc,a,hi.1⟩,step_of hlt h1 h2⟩
theorem fis_some (t:Pure.Tok) (x:ByteArray) (h:Pure.InB t.text):placketref16_is.f t.kind (t.at_:Int) (t.end_:Int) t.n (strOfNums t.text) x=some (Pure.isS t (bytesOf x)):=is_some t x h
theorem fis_calls (t:Pure.Tok) (x:ByteArray) (h:Pure.InB t.text) (w:World) :
  Calls Tryd.prog 74 #[.agg #[.int .i64 t.kind,.int .i64 (t.at_:Int),.int .i64 (t.end_:Int),.int .i64 t.n,.string (strOfNums t.text)],.string x] w fun e w'=>e = .returned (.bool (Pure.isS t (bytesOf x)))∧Below w.heap.size w w':=
 placketref16_is.calls t.kind (t.at_:Int) (t.end_:Int) t.n (strOfNums t.text) x _ w (fis_some t x h)
set_option maxRecDepth 100000 in
set_option maxHeartbeats 4000000 in
theorem fmust_calls (s x:ByteArray) (b:Nat) (st:Pure.St) (w:World) (hs:Signs w) (hsz:s.size≤140737488351232) (h:RFt w b s st) (hsb:0 < b) :
  Calls Tryd.prog 72 #[.pointer (some ⟨b,0,none⟩),.string x] w fun e w'=>e = .returned (.tuple #[])∧RFt w' b s (Pure.mustC (bytesOf s) (bytesOf x) st)∧Step w w' b:=by
 have H0:=Lib.hid h;have HIN:=Lib.hid (nx_inb s st);have HM:=Lib.hid (show Pure.mustC (bytesOf s) (bytesOf x) st=(if Pure.isS (Pure.nx (bytesOf s) st).1 (bytesOf x)=true then (Pure.nx (bytesOf s) st).2 else Pure.bd (bytesOf s) (Pure.nx (bytesOf s) st).1 (Pure.nx (bytesOf s) st).2) from rfl);have HNX:=Lib.hid (fnext_calls s b st w hs hsz h);clear h hs;generalize Pure.nx (bytesOf s) st=r at *
 obtain ⟨t,st1⟩:=r;dsimp only at HIN HM HNX;(go_enter Tryd.func72,Tryd.ntmps72);(go_wp2_with fail);refine HNX.out.mono ?_;rintro e w1 ⟨rfl,h1,hst1⟩;have hlt1:=h1.lt;have hba:=below_alloc (Below.refl w1.heap.size w1) (.cells #[.int .i64 t.kind,.int .i64 (t.at_:Int),.int .i64 (t.end_:Int),.int .i64 t.n,.string (strOfNums t.text)] 24);have HK:=Lib.hid (blk_new w1 (.cells #[.int .i64 t.kind,.int .i64 (t.at_:Int),.int .i64 (t.end_:Int),.int .i64 t.n,.string (strOfNums t.text)] 24));have H2:=Lib.hid (h1.below hba);have HS2:=Lib.hid (hst1.trans (Step.of_below hba hlt1));have HLT:=Lib.hid (show w1.heap.size ≠ b by omega);clear h1 hst1 hba;unfold tokV;(go_upto_region 1 with (fail));generalize (w1.alloc (.cells #[.int .i64 t.kind,.int .i64 (t.at_:Int),.int .i64 (t.end_:Int),.int .i64 t.n,.string (strOfNums t.text)] 24))=w2 at *
 generalize w1.heap.size=g at *
 obtain ⟨c0,c1,c2,c3,c4⟩:=cells5 HK.out;(go_wp2_with fail);refine (fis_calls t x HIN.out _).mono ?_;rintro e w3 ⟨rfl,hb3⟩;have H3:=Lib.hid (H2.out.below hb3);have HS3:=Lib.hid (HS2.out.trans (Step.of_below hb3 H2.out.lt));have hk3:=blk_below HK.out hb3;clear c0 c1 c2 c3 c4 hb3;cases hi:Pure.isS t (bytesOf x) with
 | true=>
  have HM2:=Lib.hid (show Pure.mustC (bytesOf s) (bytesOf x) st=st1 by rw [HM.out,hi];rfl);clear hi hk3;go_wp2;go_end0;rw [HM2.out];exact ⟨rfl,H3.out,HS3.out⟩
 | false=>
  have HM2:=Lib.hid (show Pure.mustC (bytesOf s) (bytesOf x) st=Pure.bd (bytesOf s) t st1 by rw [HM.out,hi];rfl);obtain ⟨c0,c1,c2,c3,c4⟩:=cells5 hk3;clear hi hk3;(go_wp2_with fail);refine (fbad_calls s b st1 t w3 hsz H3.out).mono ?_;rintro e w4 ⟨rfl,h4,hst4⟩;have H4:=Lib.hid h4;have HS4:=Lib.hid (HS3.out.trans hst4);clear h4 hst4 c0 c1 c2 c3 c4;go_wp2;go_end0;rw [HM2.out];exact ⟨rfl,H4.out,HS4.out⟩
end Go.Proofs.YtkbjblhompkdkaaDoor
namespace Go.Proofs.YtkbjblhompkdkaaDoor
open Go.RowKit Go.Proofs.YtkbjblhompkdkaaDoor.PA Go.Proofs.YtkbjblhompkdkaaDoor.PB Go.Proofs.YtkbjblhompkdkaaDoor.PC Go.Proofs.YtkbjblhompkdkaaDoorW.PrintWords Go.Proofs.YtkbjblhompkdkaaDoorW.PrintLast
set_option linter.unusedVariables false
set_option linter.unusedSimpArgs false
set_option maxRecDepth 100000 in
set_option maxHeartbeats 8000000 in
theorem fslice_aux (s:ByteArray) (b:Nat) (lo:Int) (st:Pure.St) (w0 w:World) (hs:Signs w) (hsz:s.size≤140737488351232) (h:RFt w b s st) (hsb:0 < b) (hst0:Step w0 w b) :
  Calls Tryd.prog 91 #[.pointer (some ⟨b,0,none⟩),.int .i64 lo] w fun e w'=>e = .returned (segV (Pure.sliceC (bytesOf s) lo st).1)∧RFt w' b s (Pure.sliceC (bytesOf s) lo st).2∧Step w0 w' b:=by
 have HRS:=Lib.hid h;have HSG:=Lib.hid hs;have HST:=Lib.hid hst0;clear h hs hst0;obtain ⟨t,s1,hn⟩:∃ t s1,Pure.nx (bytesOf s) st=(t,s1):=⟨_,_,rfl⟩;have HN:=Lib.hid hn;have HI:=Lib.hid (show Pure.InB t.text by have:=nx_inb s st;rwa [hn] at this);clear hn;(go_enter Tryd.func91,Tryd.ntmps91);(go_upto_region 1 with (fail));have hba:=below_alloc (Below.refl w.heap.size w) (.cells #[.int .i64 0,.int .i64 0,.int .i64 0,.int .i64 0,.string ⟨#[]⟩] 83);have hn_:=Lib.hid (blk_new w (.cells #[.int .i64 0,.int .i64 0,.int .i64 0,.int .i64 0,.string ⟨#[]⟩] 83));have hggr:b < w.heap.size:=HRS.out.lt;have HGEgr:=Lib.hid (show w0.heap.size≤w.heap.size from HST.out.2.1);obtain ⟨HST,HRS,HSG⟩:=carryF HST HRS HSG hba;have HR:=hn_;clear hba hn_;generalize (w.alloc (.cells #[.int .i64 0,.int .i64 0,.int .i64 0,.int .i64 0,.string ⟨#[]⟩] 83))=w1 at HRS HSG HST HR ⊢;generalize w.heap.size=gr at HR HGEgr hggr  ⊢;(go_upto_region 2 with (fail));have hba:=below_alloc (Below.refl w1.heap.size w1) (.cells #[.int .i64 2,.int .i64 0,.int .i64 lo,.int .i64 9223372036854775807,.string ⟨#[]⟩] 83);have hn_:=Lib.hid (blk_new w1 (.cells #[.int .i64 2,.int .i64 0,.int .i64 lo,.int .i64 9223372036854775807,.string ⟨#[]⟩] 83));have hggs:b < w1.heap.size:=HRS.out.lt;have HGEgs:=Lib.hid (show w0.heap.size≤w1.heap.size from HST.out.2.1);have hdgs_gr:gr < w1.heap.size:=blk_lt HR.out;obtain ⟨HST,HRS,HSG⟩:=carryF HST HRS HSG hba;replace HR:=Lib.hid (blk_below HR.out hba);have HV:=hn_;clear hba hn_;generalize (w1.alloc (.cells #[.int .i64 2,.int .i64 0,.int .i64 lo,.int .i64 9223372036854775807,.string ⟨#[]⟩] 83))=w2 at HRS HSG HST HV HR ⊢;generalize w1.heap.size=gs at HV HGEgs hggs hdgs_gr ⊢;(go_wp2_with fail);refine (fnext_calls s b st _ HSG.out hsz HRS.out).mono ?_;rw [HN.out];rintro e w3 ⟨rfl,hrs,hst⟩;dsimp only at hrs;replace HST:=Lib.hid (HST.out.trans hst);replace HRS:=Lib.hid hrs;replace HSG:=Lib.hid (HSG.out.step hst hsb);replace HR:=Lib.hid (hst.blk HR.out (show gr ≠ b by omega));replace HV:=Lib.hid (hst.blk HV.out (show gs ≠ b by omega));clear hrs hst;unfold tokV;(go_upto_region 3 with (fail));have hba:=below_alloc (Below.refl w3.heap.size w3) (.cells #[.int .i64 t.kind,.int .i64 (t.at_:Int),.int .i64 (t.end_:Int),.int .i64 t.n,.string (strOfNums t.text)] 24);have hn_:=Lib.hid (blk_new w3 (.cells #[.int .i64 t.kind,.int .i64 (t.at_:Int),.int .i64 (t.end_:Int),.int .i64 t.n,.string (strOfNums t.text)] 24));have hggt:b < w3.heap.size:=HRS.out.lt;have HGEgt:=Lib.hid (show w0.heap.size≤w3.heap.size from HST.out.2.1);have hdgt_gr:gr < w3.heap.size:=blk_lt HR.out;have hdgt_gs:gs < w3.heap.size:=blk_lt HV.out;obtain ⟨HST,HRS,HSG⟩:=carryF HST HRS HSG hba;replace HR:=Lib.hid (blk_below HR.out hba);replace HV:=Lib.hid (blk_below HV.out hba);have HT:=hn_;clear hba hn_;generalize (w3.alloc (.cells #[.int .i64 t.kind,.int .i64 (t.at_:Int),.int .i64 (t.end_:Int),.int .i64 t.n,.string (strOfNums t.text)] 24))=w4 at HRS HSG HST HT HR HV ⊢;generalize w3.heap.size=gt at HT HGEgt hggt hdgt_gr hdgt_gs ⊢;obtain ⟨c0,c1,c2,c3,c4⟩:=cells5 HT.out;by_cases h3:t.kind=3
 ·skip;obtain ⟨u,s2,hn2⟩:∃ u s2,Pure.nx (bytesOf s) s1=(u,s2):=⟨_,_,rfl⟩;have HN2:=Lib.hid hn2;have HI2:=Lib.hid (show Pure.InB u.text by have:=nx_inb s s1;rwa [hn2] at this);clear hn2;have HC:=Lib.hid (show Pure.sliceC (bytesOf s) lo st=(⟨2,0,lo,t.n,[]⟩,if Pure.isS u [93]=true then s2 else Pure.bd (bytesOf s) u s2) by simp only [Pure.sliceC,Pure.mustC,HN.out,HN2.out,h3,if_true]);have b3:(t.kind == 3)=true:=beq_iff_eq.2 h3;clear h3;have y3:=(blk_cell HV.out 3).trans (show _=some (.int .i64 9223372036854775807) from rfl);have yf3:=blk_frozen HV.out 3;(go_upto_region 5 with (fail));clear y3 yf3;have hset_:=Lib.hid (blk_put (cs':=#[.int .i64 2,.int .i64 0,.int .i64 lo,.int .i64 t.n,.string ⟨#[]⟩]) HV.out 3 (.int .i64 t.n) rfl);replace HRS:=Lib.hid (RFt.far 3 (.int .i64 t.n) (show b ≠ gs by omega) HRS.out ⟨_,_,(blk_cell HV.out 1).trans (show _=some (.int .i64 0:Value) from rfl)⟩);replace HSG:=Lib.hid (Signs.far 3 (.int .i64 t.n) (show (0:Nat) ≠ gs by omega) HSG.out);replace HST:=Lib.hid (Step.far 3 (.int .i64 t.n) HST.out (show b≤gs by omega) HGEgs.out);replace HR:=Lib.hid (far1 3 (.int .i64 t.n) (show gr ≠ gs by omega) HR.out);replace HT:=Lib.hid (far1 3 (.int .i64 t.n) (show gt ≠ gs by omega) HT.out);have HV:=hset_;clear hset_;generalize (w4.setCell ⟨gs,3,none⟩ (.int .i64 t.n))=w5 at HRS HSG HST HR HV HT ⊢;clear c0 c1 c2 c3 c4;(go_wp2_with fail);refine (fnext_calls s b s1 _ HSG.out hsz HRS.out).mono ?_;rw [HN2.out];rintro e w6 ⟨rfl,hrs,hst⟩;dsimp only at hrs;replace HST:=Lib.hid (HST.out.trans hst);replace HRS:=Lib.hid hrs;replace HSG:=Lib.hid (HSG.out.step hst hsb);replace HR:=Lib.hid (hst.blk HR.out (show gr ≠ b by omega));replace HV:=Lib.hid (hst.blk HV.out (show gs ≠ b by omega));replace HT:=Lib.hid (hst.blk HT.out (show gt ≠ b by omega));clear hrs hst;unfold tokV;obtain ⟨y0,y1,y2,y3,y4⟩:=cells5 HT.out;obtain ⟨yf0,yf1,yf2,yf3,yf4⟩:=frozen5 HT.out;(go_upto_region 6 with (fail));clear y0 yf0 y1 yf1 y2 yf2 y3 yf3 y4 yf4;have hset_:=Lib.hid (put5 (.int .i64 u.kind) (.int .i64 (u.at_:Int)) (.int .i64 (u.end_:Int)) (.int .i64 u.n) (.string (strOfNums u.text)) HT.out);replace HRS:=Lib.hid (RFt.set5 (.int .i64 u.kind) (.int .i64 (u.at_:Int)) (.int .i64 (u.end_:Int)) (.int .i64 u.n) (.string (strOfNums u.text)) (show b ≠ gt by omega) HRS.out HT.out);replace HSG:=Lib.hid (Signs.set5 (.int .i64 u.kind) (.int .i64 (u.at_:Int)) (.int .i64 (u.end_:Int)) (.int .i64 u.n) (.string (strOfNums u.text)) (show (0:Nat) ≠ gt by omega) HSG.out);replace HST:=Lib.hid (Step.set5w (.int .i64 u.kind) (.int .i64 (u.at_:Int)) (.int .i64 (u.end_:Int)) (.int .i64 u.n) (.string (strOfNums u.text)) HST.out (show b≤gt by omega) HGEgt.out);replace HR:=Lib.hid (far5 (.int .i64 u.kind) (.int .i64 (u.at_:Int)) (.int .i64 (u.end_:Int)) (.int .i64 u.n) (.string (strOfNums u.text)) (show gr ≠ gt by omega) HR.out);replace HV:=Lib.hid (far5 (.int .i64 u.kind) (.int .i64 (u.at_:Int)) (.int .i64 (u.end_:Int)) (.int .i64 u.n) (.string (strOfNums u.text)) (show gs ≠ gt by omega) HV.out);have HT:=hset_;clear hset_;generalize (((((w6.setCell ⟨gt,0,none⟩ (.int .i64 u.kind)).setCell ⟨gt,1,none⟩ (.int .i64 (u.at_:Int))).setCell ⟨gt,2,none⟩ (.int .i64 (u.end_:Int))).setCell ⟨gt,3,none⟩ (.int .i64 u.n)).setCell ⟨gt,4,none⟩ (.string (strOfNums u.text)))=w7 at HRS HSG HST HR HV HT ⊢;obtain ⟨c0,c1,c2,c3,c4⟩:=cells5 HT.out;(go_wp2_with fail);refine (fis_calls u ⟨#[93]⟩ HI2.out _).mono ?_;rintro e w8 ⟨rfl,hb_⟩;obtain ⟨HST,HRS,HSG⟩:=carryF HST HRS HSG hb_;replace HR:=Lib.hid (blk_below HR.out hb_);replace HV:=Lib.hid (blk_below HV.out hb_);replace HT:=Lib.hid (blk_below HT.out hb_);clear hb_;clear c0 c1 c2 c3 c4;have hb93:bytesOf (⟨#[93]⟩:ByteArray) = [93]:=rfl;rw [hb93];clear hb93;cases hi_:Pure.isS u [93] with
  | true=>
   have HC2:=Lib.hid (show Pure.sliceC (bytesOf s) lo st=(⟨2,0,lo,t.n,[]⟩,s2) by rw [HC.out,hi_];rfl);clear hi_;obtain ⟨v0,v1,v2,v3,v4⟩:=cells5 HV.out;obtain ⟨y0,y1,y2,y3,y4⟩:=cells5 HR.out;obtain ⟨yf0,yf1,yf2,yf3,yf4⟩:=frozen5 HR.out;go_wp2;refine bodyPost_ret (results_c rfl _ _ gr 83 _ (0,0) _ rfl (put5 _ _ _ _ _ HR.out) Tryd.underlying83 rfl (by kernel_rfl)) rfl ?_;have hrs_:=RFt.set5 (.int .i64 2) (.int .i64 0) (.int .i64 lo) (.int .i64 t.n) (.string ⟨#[]⟩) (show b ≠ gr by omega) HRS.out HR.out;have hst_:=Step.set5w (.int .i64 2) (.int .i64 0) (.int .i64 lo) (.int .i64 t.n) (.string ⟨#[]⟩) HST.out (show b≤gr by omega) HGEgr.out;rw [HC2.out];exact ⟨rfl,hrs_,hst_⟩
  | false=>
   have HC2:=Lib.hid (show Pure.sliceC (bytesOf s) lo st=(⟨2,0,lo,t.n,[]⟩,Pure.bd (bytesOf s) u s2) by rw [HC.out,hi_];rfl);clear hi_;obtain ⟨c0,c1,c2,c3,c4⟩:=cells5 HT.out;(go_wp2_with fail);refine (fbad_calls s b s2 u _ hsz HRS.out).mono ?_;rintro e w9 ⟨rfl,hrs,hst⟩;replace HST:=Lib.hid (HST.out.trans hst);replace HRS:=Lib.hid hrs;replace HSG:=Lib.hid (HSG.out.step hst hsb);replace HR:=Lib.hid (hst.blk HR.out (show gr ≠ b by omega));replace HV:=Lib.hid (hst.blk HV.out (show gs ≠ b by omega));replace HT:=Lib.hid (hst.blk HT.out (show gt ≠ b by omega));clear hrs hst;clear c0 c1 c2 c3 c4;obtain ⟨v0,v1,v2,v3,v4⟩:=cells5 HV.out;obtain ⟨y0,y1,y2,y3,y4⟩:=cells5 HR.out;obtain ⟨yf0,yf1,yf2,yf3,yf4⟩:=frozen5 HR.out;go_wp2;refine bodyPost_ret (results_c rfl _ _ gr 83 _ (0,0) _ rfl (put5 _ _ _ _ _ HR.out) Tryd.underlying83 rfl (by kernel_rfl)) rfl ?_;have hrs_:=RFt.set5 (.int .i64 2) (.int .i64 0) (.int .i64 lo) (.int .i64 t.n) (.string ⟨#[]⟩) (show b ≠ gr by omega) HRS.out HR.out;have hst_:=Step.set5w (.int .i64 2) (.int .i64 0) (.int .i64 lo) (.int .i64 t.n) (.string ⟨#[]⟩) HST.out (show b≤gr by omega) HGEgr.out;rw [HC2.out];exact ⟨rfl,hrs_,hst_⟩
 ·skip;have HC:=Lib.hid (show Pure.sliceC (bytesOf s) lo st=(⟨2,0,lo,9223372036854775807,[]⟩,if Pure.isS t [93]=true then s1 else Pure.bd (bytesOf s) t s1) by simp only [Pure.sliceC,HN.out,h3,if_false]);have b3:(t.kind == 3)=false:=beq_eq_false_iff_ne.2 h3;clear h3;(go_upto_region 6 with (fail));clear c0 c1 c2 c3 c4;obtain ⟨c0,c1,c2,c3,c4⟩:=cells5 HT.out;(go_wp2_with fail);refine (fis_calls t ⟨#[93]⟩ HI.out _).mono ?_;rintro e w5 ⟨rfl,hb_⟩;obtain ⟨HST,HRS,HSG⟩:=carryF HST HRS HSG hb_;replace HR:=Lib.hid (blk_below HR.out hb_);replace HV:=Lib.hid (blk_below HV.out hb_);replace HT:=Lib.hid (blk_below HT.out hb_);clear hb_;clear c0 c1 c2 c3 c4;have hb93:bytesOf (⟨#[93]⟩:ByteArray) = [93]:=rfl;rw [hb93];clear hb93;cases hi_:Pure.isS t [93] with
  | true=>
   have HC2:=Lib.hid (show Pure.sliceC (bytesOf s) lo st=(⟨2,0,lo,9223372036854775807,[]⟩,s1) by rw [HC.out,hi_];rfl);clear hi_;obtain ⟨v0,v1,v2,v3,v4⟩:=cells5 HV.out;obtain ⟨y0,y1,y2,y3,y4⟩:=cells5 HR.out;obtain ⟨yf0,yf1,yf2,yf3,yf4⟩:=frozen5 HR.out;go_wp2;refine bodyPost_ret (results_c rfl _ _ gr 83 _ (0,0) _ rfl (put5 _ _ _ _ _ HR.out) Tryd.underlying83 rfl (by kernel_rfl)) rfl ?_;have hrs_:=RFt.set5 (.int .i64 2) (.int .i64 0) (.int .i64 lo) (.int .i64 9223372036854775807) (.string ⟨#[]⟩) (show b ≠ gr by omega) HRS.out HR.out;have hst_:=Step.set5w (.int .i64 2) (.int .i64 0) (.int .i64 lo) (.int .i64 9223372036854775807) (.string ⟨#[]⟩) HST.out (show b≤gr by omega) HGEgr.out;rw [HC2.out];exact ⟨rfl,hrs_,hst_⟩
  | false=>
   have HC2:=Lib.hid (show Pure.sliceC (bytesOf s) lo st=(⟨2,0,lo,9223372036854775807,[]⟩,Pure.bd (bytesOf s) t s1) by rw [HC.out,hi_];rfl);clear hi_;obtain ⟨c0,c1,c2,c3,c4⟩:=cells5 HT.out;(go_wp2_with fail);refine (fbad_calls s b s1 t _ hsz HRS.out).mono ?_;rintro e w6 ⟨rfl,hrs,hst⟩;replace HST:=Lib.hid (HST.out.trans hst);replace HRS:=Lib.hid hrs;replace HSG:=Lib.hid (HSG.out.step hst hsb);replace HR:=Lib.hid (hst.blk HR.out (show gr ≠ b by omega));replace HV:=Lib.hid (hst.blk HV.out (show gs ≠ b by omega));replace HT:=Lib.hid (hst.blk HT.out (show gt ≠ b by omega));clear hrs hst;clear c0 c1 c2 c3 c4;obtain ⟨v0,v1,v2,v3,v4⟩:=cells5 HV.out;obtain ⟨y0,y1,y2,y3,y4⟩:=cells5 HR.out;obtain ⟨yf0,yf1,yf2,yf3,yf4⟩:=frozen5 HR.out;go_wp2;refine bodyPost_ret (results_c rfl _ _ gr 83 _ (0,0) _ rfl (put5 _ _ _ _ _ HR.out) Tryd.underlying83 rfl (by kernel_rfl)) rfl ?_;have hrs_:=RFt.set5 (.int .i64 2) (.int .i64 0) (.int .i64 lo) (.int .i64 9223372036854775807) (.string ⟨#[]⟩) (show b ≠ gr by omega) HRS.out HR.out;have hst_:=Step.set5w (.int .i64 2) (.int .i64 0) (.int .i64 lo) (.int .i64 9223372036854775807) (.string ⟨#[]⟩) HST.out (show b≤gr by omega) HGEgr.out;rw [HC2.out];exact ⟨rfl,hrs_,hst_⟩
theorem fslice_calls (s:ByteArray) (b:Nat) (lo:Int) (st:Pure.St) (w:World) (hs:Signs w) (hsz:s.size≤140737488351232) (h:RFt w b s st) (hsb:0 < b) :
  Calls Tryd.prog 91 #[.pointer (some ⟨b,0,none⟩),.int .i64 lo] w fun e w'=>e = .returned (segV (Pure.sliceC (bytesOf s) lo st).1)∧RFt w' b s (Pure.sliceC (bytesOf s) lo st).2∧Step w w' b:=
 fslice_aux s b lo st w w hs hsz h hsb ⟨Below.refl _ _,KeepBut.refl _ _ _⟩
end Go.Proofs.YtkbjblhompkdkaaDoor

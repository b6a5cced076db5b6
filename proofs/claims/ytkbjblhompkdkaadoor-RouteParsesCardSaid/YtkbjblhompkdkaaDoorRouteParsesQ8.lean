/- YtkbjblhompkdkaaDoorRouteParsesQ8: LexPrint, RouteFilter, RouteBracket, RouteParseP -/
import Derived.Test.YtkbjblhompkdkaaDoorRouteParsesQ6
import Derived.Test.YtkbjblhompkdkaaDoorRouteParsesQ5
import Derived.Test.YtkbjblhompkdkaaDoorRouteParsesQ7
namespace Go.Proofs.YtkbjblhompkdkaaDoor.Pure
set_option linter.unusedSimpArgs false
open Go.RowKit Go.Proofs.YtkbjblhompkdkaaDoor.PA Go.Proofs.YtkbjblhompkdkaaDoorW.PrintWords Go.Proofs.YtkbjblhompkdkaaDoorW.PrintLast
theorem and15 (c:Int) (h0:0≤c) (h1:c≤255):Go.bits .and .u8 c 15=c % 16:=u8_and15 c h0 (by omega)
theorem hex_digit (x:Int) (h0:0≤x) (h1:x < 16):bt (⟨#[48,49,50,51,52,53,54,55,56,57,97,98,99,100,101,102]⟩:ByteArray) x=hexD x:=by
 obtain ⟨n,rfl⟩:=Int.eq_ofNat_of_zero_le h0;match n,h1 with
 | 0,_|1,_|2,_|3,_|4,_|5,_|6,_|7,_|8,_|9,_|10,_|11,_|12,_|13,_|14,_|15,_=>rfl
 | n+16,h=>omega
section
variable (s:ByteArray)
theorem quote_loop (hs:s.size≤35184372088830) (d:Nat):∀ (i:Nat) (acc:List Int),i≤s.size→s.size - i=d→acc.length≤4 * i+1 →
  Ev (fun k=>quote_Quote.l0 k s acc (s.size:Int) (i:Int)) (strOfNums (acc++qbody ((bytesOf s).drop i)++[34])):=by
 induction d with
 | zero=>
  intro i acc hi hd ha;rw [bytes_end s (by omega)];refine Ev.succ ?_;simp only [quote_Quote.l0,show ¬ ((i:Int) < (s.size:Int)) by omega,show acc.length < 140737488355328 by omega,if_true,if_false];simp only [qbody,List.flatMap_nil,List.append_nil];exact Ev.now _
 | succ d ih=>
  intro i acc hi hd ha;(have hlt:i < s.size:=by omega);have hb:=bt_range s (i:Int);have hn:=i_next hlt (by omega);rw [bytes_drop s hlt];(have e:qbody (bt s (i:Int) :: (bytesOf s).drop (i+1))=qone (bt s (i:Int))++qbody ((bytesOf s).drop (i+1)):=by simp [qbody]);rw [e,← List.append_assoc];have hql:=qone_length (bt s (i:Int));have ih:=ih (i+1) (acc++qone (bt s (i:Int))) (by omega) (by omega) (by rw [List.length_append];omega);refine Ev.succ ?_;simp only [quote_Quote.l0,quote_letter.f,Option.bind_some];simp only [show (i:Int) < (s.size:Int) by omega,show (0:Int)≤(i:Int) by omega,if_true,and15 _ hb.1 hb.2,hn];generalize bt s (i:Int)=c at *
  (have hacc:∀ y:List Int,y.length≤4→acc.length+y.length < 140737488355328:=by intro y hy;omega);by_cases hl:letterS c > 0
  ·(have e:qone c = [92,letterS c]:=by unfold qone;rw [if_pos hl]);rw [e] at ih ⊢;simp only [hl,if_true,hacc [92,letterS c] (by simp)];exact ih
  ·simp only [hl,if_false];by_cases hr:c < 32 ∨ c > 126
   ·(have e:qone c = [92,120,hexD (c / 16),hexD (c % 16)]:=by unfold qone;rw [if_neg hl,if_pos hr]);rw [e] at ih ⊢;simp only [show (0:Int)≤c / 16 by omega,show c / 16 < 16 by omega,show (0:Int)≤c % 16 by omega,show c % 16 < 16 by omega,if_true,hex_digit _ (show (0:Int)≤c / 16 by omega) (show c / 16 < 16 by omega),hex_digit _ (show (0:Int)≤c % 16 by omega) (show c % 16 < 16 by omega),hacc [92,120,hexD (c / 16),hexD (c % 16)] (by simp)];rcases hr with hr|hr
    ·simp only [hr,if_true];exact ih
    ·simp only [show ¬ c < 32 by omega,hr,if_true,if_false];exact ih
   ·(have e:qone c = [c]:=by unfold qone;rw [if_neg hl,if_neg hr]);rw [e] at ih ⊢;simp only [show ¬ c < 32 by omega,show ¬ c > 126 by omega,if_false,show acc.length < 140737488355328 by omega,if_true];exact ih
theorem quote_ev (hs:s.size≤35184372088830):Ev (fun k=>quote_Quote.f k s) (strOfNums (quoteL (bytesOf s))):=by
 unfold quote_Quote.f;have h2:wrap64 ((s.size:Int)+2)=(s.size:Int)+2:=w64 (by omega) (by omega);simp only [h2,show (0:Int)≤(s.size:Int)+2 by omega,show ((s.size:Int)+2).toNat≤281474976710656 by omega,if_true,Option.bind_some,List.length_nil,show 0 < 140737488355328 by omega,List.nil_append];have:=quote_loop s hs s.size 0 [34] (by omega) (by omega) (by simp);rw [List.drop_zero] at this;exact this
end
theorem strOfNums_append (xs ys:List Int):strOfNums (xs++ys)=strOfNums xs++strOfNums ys:=by
 apply ByteArray.ext;simp [strOfNums,ByteArray.data_append]
theorem decL_length (k:Nat):∀ u,u < 10 ^ (k+1)→(decL u).length≤k+1:=by
 induction k with
 | zero=>intro u h;rw [decL_small (by simpa using h)];simp
 | succ k ih=>
  intro u h;by_cases hu:u < 10
  ·rw [decL_small hu];simp
  ·have:=ih (u / 10) (by rw [Nat.pow_succ] at h;omega);rw [decL_big hu];simp;omega
theorem decL_len (u:Nat) (h:u≤9223372036854775808):(decL u).length≤19:=by
 (have e:(10:Nat) ^ 19=10000000000000000000:=by decide);exact decL_length 18 u (by omega)
theorem digL_len (n:Int) (h0 : -9223372036854775808≤n) (h1:n≤9223372036854775807):(digL n).length≤20:=by
 have:=decL_len n.natAbs (by omega);unfold digL;split <;> (simp;omega)
theorem bytes_add_nil (s:ByteArray):s++(⟨#[]⟩:ByteArray)=s:=by
 apply ByteArray.ext;simp [ByteArray.data_append]
theorem nil_add_bytes (s:ByteArray):(⟨#[]⟩:ByteArray)++s=s:=by
 apply ByteArray.ext;simp [ByteArray.data_append]
def reprB (x:S24):ByteArray:=if x.f0=1 ∨ x.f0=2 then x.f4 else if x.f0=3 then strOfNums (digL x.f3) else if x.f0=4 then strOfNums (quoteL (bytesOf x.f4)) else ⟨#[]⟩
def printG:Bool→List S24→ByteArray
 | _,[]=>⟨#[]⟩
 | first,x :: r=>(if first=true then (⟨#[]⟩:ByteArray) else ⟨#[32]⟩)++(reprB x++printG false r)
theorem reprB_size (x:S24) (hs:x.f4.size≤1048576) (h0 : -9223372036854775808≤x.f3) (h1:x.f3≤9223372036854775807):(reprB x).size≤4900000:=by
 have hd:=digL_len x.f3 h0 h1;have hq:=qbody_length (bytesOf x.f4);rw [bytesOf_length] at hq;unfold reprB;repeat' split
 ·omega
 ·rw [strOfNums_size];omega
 ·rw [strOfNums_size];simp [quoteL];omega
 ·exact Nat.zero_le _
theorem reprB_tok (t:Tok) (hb:InB t.text):reprB (tokS t)=strOfNums (reprT t):=by
 unfold reprB reprT tokS;simp only [bytesOf_strOfNums _ hb];(repeat' split);all_goals rfl
theorem printG_tail (ts:List Tok) (hb:∀ t ∈ ts,InB t.text):printG false (ts.map tokS)=strOfNums (tailP ts):=by
 induction ts with
 | nil=>rfl
 | cons t ts ih=>
  rw [List.map_cons,printG,ih (fun u hu=>hb u (by simp [hu])),reprB_tok t (hb t (by simp)),tailP_cons,strOfNums_append,strOfNums_append];rfl
theorem printG_toks (ts:List Tok) (hb:∀ t ∈ ts,InB t.text):printG true (ts.map tokS)=strOfNums (printS ts):=by
 cases ts with
 | nil=>rfl
 | cons t ts=>
  rw [List.map_cons,printG,printG_tail ts (fun u hu=>hb u (by simp [hu])),reprB_tok t (hb t (by simp)),show printS (t :: ts)=reprT t++tailP ts from rfl,strOfNums_append,if_pos rfl,nil_add_bytes]
section
variable (L:List S24) (hL:L.length≤1048576) (hx:∀ x ∈ L,x.f4.size≤1048576 ∧ -9223372036854775808≤x.f3∧x.f3≤9223372036854775807)
include hL hx
theorem print_loop (d:Nat):∀ (i:Nat) (acc:ByteArray),i≤L.length→L.length - i=d→acc.size≤i * 5000000→Ev (fun k=>lex_Print.l0 k acc L (L.length:Int) (i:Int)) (acc++printG (i == 0) (L.drop i)):=by
 induction d with
 | zero=>
  intro i acc hi hd hacc;refine Ev.succ ?_;refine Ev.congr (f:=fun _=>some acc) (fun k=>?_) ?_
  ·simp only [lex_Print.l0];rw [if_neg (by omega)]
  ·rw [List.drop_eq_nil_of_le (by omega),printG,bytes_add_nil];exact Ev.now _
 | succ d ih=>
  intro i acc hi hd hacc;(have hlt:i < L.length:=by omega);obtain ⟨x,hxi⟩:∃ x,L[i]? = some x:=⟨_,List.getElem?_eq_getElem hlt⟩;(have hrd:rd_T24 L (i:Int)=x:=by simp [rd_T24,hxi]);have hdrop:L.drop i=x :: L.drop (i+1):=by
   rw [List.drop_eq_getElem_cons hlt];congr 1;exact (List.getElem?_eq_some_iff.1 hxi).2
  obtain ⟨hsz,h0,h1⟩:=hx x (List.mem_of_getElem? hxi);have hrep:=reprB_size x hsz h0 h1;have key:∀ acc':ByteArray,acc'.size≤i * 5000000+1→Ev (fun k=>lex_Print.j1 k acc' L (L.length:Int) (i:Int) x.f0 x.f1 x.f2 x.f3 x.f4) (acc'++reprB x++printG false (L.drop (i+1))):=by
   intro acc' ha;have ih':=ih (i+1) (acc'++reprB x) (by omega) (by omega) (by rw [ByteArray.size_append];omega);rw [show (i+1 == 0)=false from rfl] at ih';have hn:=i_next (n:=L.length) hlt (by omega);have j2:∀ b:Bool,(b=true ↔ (x.f0=1 ∨ x.f0=2))→Ev (fun k=>lex_Print.j2 k acc' L (L.length:Int) (i:Int) x.f0 b x.f0 x.f1 x.f2 x.f3 x.f4) (acc'++reprB x++printG false (L.drop (i+1))):=by
    intro b hb;refine Ev.succ ?_;by_cases hk:x.f0=1 ∨ x.f0=2
    ·(have e:reprB x=x.f4:=by unfold reprB;rw [if_pos hk]);rw [e] at ih' ⊢;refine Ev.congr (fun k=>?_) ih';simp only [lex_Print.j2];rw [if_pos (hb.2 hk),if_pos (by omega),hn]
    ·have hbf:¬ b=true:=fun e=>hk (hb.1 e);by_cases h3:x.f0=3
     ·(have e:reprB x=strOfNums (digL x.f3):=by unfold reprB;rw [if_neg hk,if_pos h3]);rw [e] at ih' ⊢ hrep;refine Ev.congr (f:=fun k=>(num_Digits.f x.f3).bind fun t227=>(if acc'.size+t227.size≤9223372036854775807 then (lex_Print.l0 k (acc'++t227) L (L.length:Int) (wrap64 ((i:Int)+1))) else (none))) (fun k=>?_) ?_
      ·simp only [lex_Print.j2];rw [if_neg hbf,if_pos h3]
      refine Ev.bind (Ev.const (by unfold num_Digits.f;rw [if_pos ⟨h0,h1⟩])) ?_;refine Ev.congr (fun k=>?_) ih';rw [if_pos (by omega),hn]
     ·by_cases h4:x.f0=4
      ·(have e:reprB x=strOfNums (quoteL (bytesOf x.f4)):=by unfold reprB;rw [if_neg hk,if_neg h3,if_pos h4]);rw [e] at ih' ⊢ hrep;refine Ev.congr (f:=fun k=>(quote_Quote.f k x.f4).bind fun t228=>(if acc'.size+t228.size≤9223372036854775807 then (lex_Print.l0 k (acc'++t228) L (L.length:Int) (wrap64 ((i:Int)+1))) else (none))) (fun k=>?_) ?_
       ·simp only [lex_Print.j2];rw [if_neg hbf,if_neg h3,if_pos h4]
       refine Ev.bind (quote_ev x.f4 (by omega)) ?_;refine Ev.congr (fun k=>?_) ih';rw [if_pos (by omega),hn]
      ·(have e:reprB x=⟨#[]⟩:=by unfold reprB;rw [if_neg hk,if_neg h3,if_neg h4]);rw [e,bytes_add_nil] at ih' ⊢;refine Ev.congr (fun k=>?_) ih';simp only [lex_Print.j2];rw [if_neg hbf,if_neg h3,if_neg h4,hn]
   refine Ev.succ ?_;simp only [lex_Print.j1];by_cases h1:x.f0=1
   ·refine Ev.congr (fun k=>?_) (j2 (x.f0 == 1) (by simp [h1]));rw [if_pos h1]
   ·refine Ev.congr (fun k=>?_) (j2 (x.f0 == 2) (by simp [h1]));rw [if_neg h1]
  refine Ev.succ ?_;simp only [lex_Print.l0,hrd];rw [hdrop];by_cases hi0:i=0
  ·subst hi0;(have e:acc++printG (0 == 0) (x :: L.drop (0+1))=acc++reprB x++printG false (L.drop (0+1)):=by simp [printG,ByteArray.append_assoc,nil_add_bytes]);rw [e];refine Ev.congr (fun k=>?_) (key acc (by omega));rw [if_pos (by omega),if_pos (by omega),if_pos (by omega),if_neg (by omega)]
  ·(have e:acc++printG (i == 0) (x :: L.drop (i+1))=(acc++(⟨#[32]⟩:ByteArray))++reprB x++printG false (L.drop (i+1)):=by simp [printG,ByteArray.append_assoc,hi0]);(have hs1:(acc++(⟨#[32]⟩:ByteArray)).size=acc.size+1:=by rw [ByteArray.size_append];rfl);rw [e];refine Ev.congr (fun k=>?_) (key (acc++(⟨#[32]⟩:ByteArray)) (by rw [hs1];omega));rw [if_pos (by omega),if_pos (by omega),if_pos (by omega),if_pos (by omega),if_pos (by omega)]
theorem print_ev:Ev (fun k=>lex_Print.f k L) (printG true L):=by
 unfold lex_Print.f;have:=print_loop L hL hx _ 0 (⟨#[]⟩:ByteArray) (Nat.zero_le _) rfl (by decide);rw [List.drop_zero,nil_add_bytes] at this;exact this
end
end Go.Proofs.YtkbjblhompkdkaaDoor.Pure
namespace Go.Proofs.YtkbjblhompkdkaaDoor
open Go.RowKit Go.Proofs.YtkbjblhompkdkaaDoor.PA Go.Proofs.YtkbjblhompkdkaaDoor.PB Go.Proofs.YtkbjblhompkdkaaDoorW.PrintWords Go.Proofs.YtkbjblhompkdkaaDoorW.PrintLast
set_option linter.unusedVariables false
set_option linter.unusedSimpArgs false
theorem RSt.blk {w:World} {b:Nat} {s:ByteArray} {st:Pure.St} (h:RSt w b s st):∃ cs,w.heap[b]? = some (.cells cs 89 (0,0)):=by
 cases st with
 | inl a=>exact ⟨_,h.2⟩
 | inr e=>obtain ⟨x,T,u,h1,-⟩:=h;exact ⟨_,h1⟩
theorem R_step {w w':World} {b:Nat} {s:ByteArray} {st:Pure.St} {v:Value} {xs:List S24} (hr:RSt w b s st) {β:Nat} (h:Kd.R k24 24 w β (fun _=>True) v xs) (hst:Step w w' b):Kd.R k24 24 w' β (fun _=>True) v xs:=by
 obtain ⟨cs,hb⟩:=hr.blk;exact Kd.R_mono (Kd.R_keep (Kd.R_types h hb (by decide)) hst.2 (fun k hk=>hk.2)) (fun k hk=>hk.1)
def TokOk (s:ByteArray) (t:Pure.Tok):Prop:=Pure.InB t.text∧t.text.length≤s.size ∧ -9223372036854775808≤t.n∧t.n≤9223372036854775807
theorem nx_ok (s:ByteArray) (st:Pure.St):TokOk s (Pure.nx (bytesOf s) st).1:=by
 cases st with
 | inr e=>exact ⟨fun x hx=>by simp [Pure.nx,Pure.tok0] at hx,by simp [Pure.nx,Pure.tok0],by simp [Pure.nx,Pure.tok0],by simp [Pure.nx,Pure.tok0]⟩
 | inl a=>
  cases hr:Pure.nextS (bytesOf s) a with
  | inr e=>
   (have e:Pure.nx (bytesOf s) (.inl a)=(Pure.tok0,.inr e):=by simp only [Pure.nx,hr]);rw [e];exact ⟨fun x hx=>by simp [Pure.tok0] at hx,by simp [Pure.tok0],by simp [Pure.tok0],by simp [Pure.tok0]⟩
  | inl t=>
   (have e:Pure.nx (bytesOf s) (.inl a)=(t,.inl t.end_):=by simp only [Pure.nx,hr]);rw [e];show TokOk s t;have h:=tok_parts (Pure.InB.drop (Pure.bytesOf_range s) _) hr;exact ⟨h.1,by have:=h.2.1;rw [List.length_drop,bytesOf_length] at this;omega,h.2.2⟩
theorem print_toks (s:ByteArray) (hs:s.size≤1048576) (acc:List Pure.Tok) (hl:acc.length≤s.size) (hk:∀ t ∈ acc,TokOk s t):Ev (fun k=>lex_Print.f k (acc.map tokS)) (strOfNums (Pure.printS acc)):=by
 have:=Pure.print_ev (acc.map tokS) (by rw [List.length_map];omega) (by
  intro x hx;obtain ⟨t,ht,rfl⟩:=List.mem_map.1 hx;have:=hk t ht;exact ⟨by simp only [tokS,strOfNums_size];exact Nat.le_trans this.2.1 hs,this.2.2⟩)
 rwa [Pure.printG_toks acc (fun t ht=>(hk t ht).1)] at this
theorem print_c {k n c:Nat} {A:Option Addr} {l:List S24} {r:ByteArray} {w:World} (hl:l.length=n) (h0:Kd.C k24 w A n l) (hc:n≤c) (h:lex_Print.f k l=some r) :
  Calls Tryd.prog 24 #[.slice A n c] w fun e w'=>e = .returned (.string r)∧Below w.heap.size w w':=by
 subst hl;exact lex_Print.calls k A c l r w h0 hc h
def FInv (s:ByteArray) (b:Nat) (w0:World) (gr:Nat) (st1:Pure.St) (k:Nat) (vo vn:Value) (wr:World):Prop:=
 ∃ (acc:List Pure.Tok) (n:Int) (st:Pure.St),vn = .int .i64 n∧RSt wr b s st∧Signs wr∧Step w0 wr b∧wr.heap[gr]? = some (.cells #[.int .i64 0,.int .i64 0,.int .i64 0,.int .i64 0,.string ⟨#[]⟩] 83 (0,0))∧Kd.R k24 24 wr w0.heap.size (fun _=>True) vo (acc.map tokS) ∧
  Pure.filtC (bytesOf s) st1 1 []=Pure.filtC (bytesOf s) st n acc∧k=Pure.room (bytesOf s) st∧acc.length≤s.size∧(∀ a,st = .inl a→acc.length≤a) ∧ -3000000≤n - acc.length ∧ -(acc.length:Int) - 1≤n∧n≤(acc.length:Int)+1∧∀ t ∈ acc,TokOk s t
theorem app_keep {w0 W w9:World} {b gr:Nat} {s:ByteArray} {a e:Nat} {α:Type} {d:Kd α} {v:Value} {xs:List α} {cs:Array Value} {t:TypeId} (hb0:b < w0.heap.size) (hsb:0 < b) (hrs:RSt W b s (.inl a)) (hsg:Signs W) (hst:Step w0 W b)
  (hr:W.heap[gr]? = some (.cells cs t (0,0))) (hte:∀ q,q ∈ e :: d.E→q ≠ t) (hO:d.R e W w0.heap.size (fun _=>True) v xs) (hb:Below w0.heap.size W w9) (hg:W.grownBy w9 v.ownBlock) :
  RSt w9 b s (.inl a)∧Signs w9∧Step w0 w9 b∧w9.heap[gr]? = some (.cells cs t (0,0)):=by
 refine ⟨⟨hrs.1,(hb.block b hb0).trans hrs.2⟩,fun i x hx=>(hb.cell (show 0 < w0.heap.size by omega)).trans (hsg i x hx),⟨Below.trans hst.1 (hb.mono (Nat.le_of_lt hb0)),KeepBut.trans hst.2 (KeepBut.of_grown hg b) ?_⟩,blk_grown hr hg (Kd.R_away (Kd.R_types hO hr hte) (fun k hk=>hk.2))⟩;cases ho:v.ownBlock with
 | none=>exact .inl rfl
 | some k=>exact .inr ⟨k,rfl,Kd.R_base hO k ho⟩
set_option maxRecDepth 100000 in
set_option maxHeartbeats 8000000 in
theorem filter_aux (s:ByteArray) (b:Nat) (st0:Pure.St) (w0 w:World) (hs:Signs w) (hsz:s.size≤140737488351232) (h:RSt w b s st0) (hsb:0 < b) (hst0:Step w0 w b) (hb0:b < w0.heap.size) (hsm:s.size≤1048576) :
  Calls Tryd.prog 89 #[.pointer (some ⟨b,0,none⟩)] w fun e w'=>e = .returned (segV (Pure.filterC (bytesOf s) st0).1)∧RSt w' b s (Pure.filterC (bytesOf s) st0).2∧Step w0 w' b:=by
 have HRS:=Lib.hid h;have HSG:=Lib.hid hs;have HST:=Lib.hid hst0;clear h hs hst0;obtain ⟨st1,hm⟩:∃ x,Pure.mustC (bytesOf s) [40] st0=x:=⟨_,rfl⟩;have HM:=Lib.hid hm;clear hm;(go_enter Tryd.func89,Tryd.ntmps89);(go_upto_region 1 with (fail));have hba:=below_alloc (Below.refl w.heap.size w) (.cells #[.int .i64 0,.int .i64 0,.int .i64 0,.int .i64 0,.string ⟨#[]⟩] 83);have hn_:=Lib.hid (blk_new w (.cells #[.int .i64 0,.int .i64 0,.int .i64 0,.int .i64 0,.string ⟨#[]⟩] 83));have hggr:b < w.heap.size:=HRS.out.lt;have HGEgr:=Lib.hid (show w0.heap.size≤w.heap.size from HST.out.2.1);obtain ⟨HST,HRS,HSG⟩:=carryB HST HRS HSG hba;have HR:=hn_;clear hba hn_;generalize (w.alloc (.cells #[.int .i64 0,.int .i64 0,.int .i64 0,.int .i64 0,.string ⟨#[]⟩] 83))=w1 at HRS HSG HST HR ⊢;generalize w.heap.size=gr at HR HGEgr hggr  ⊢;(go_wp2_with fail);(repeat (go_step3;go_wp2_with fail));refine (must_calls s ⟨#[40]⟩ b st0 _ HSG.out hsz HRS.out hsb).mono ?_;have hb40:bytesOf (⟨#[40]⟩:ByteArray) = [40]:=rfl;rw [hb40,HM.out];clear hb40;rintro e w2 ⟨rfl,hrs,hst⟩;replace HST:=Lib.hid (HST.out.trans hst);replace HRS:=Lib.hid hrs;replace HSG:=Lib.hid (HSG.out.step hst hsb);replace HR:=Lib.hid (hst.blk HR.out (show gr ≠ b by omega));clear hrs hst;go_wp2;(repeat (go_step3;go_wp2));go_loopg [3,4] (Pure.room (bytesOf s) st1) (fun k vo vn wr=>FInv s b w0 gr st1 k vo vn wr)
 case atStart=>exact ⟨[],1,st1,rfl,HRS.out,HSG.out,HST.out,HR.out,Kd.R_nil _ _ _ _ _,rfl,rfl,Nat.zero_le _,fun _ _=>Nat.zero_le _,by simp,by simp,by simp,by simp⟩
 case round=>
  clear HRS HSG HST HR;obtain ⟨acc,n,st,rfl,hrs,hsg,hst,hr,hO,hF,hk,hacc,hacc2,hn0,hn1,hn2,htk⟩:=hrel;have HRS:=Lib.hid hrs;have HSG:=Lib.hid hsg;have HST:=Lib.hid hst;have HR:=Lib.hid hr;have HO:=Lib.hid hO;have HF:=Lib.hid hF;have HTK:=Lib.hid htk;have HAC:=Lib.hid hacc;have HAC2:=Lib.hid hacc2;have HKK:=Lib.hid hk;clear hrs hsg hst hr hO hF htk hacc hacc2 hk;(have hrng:(acc.length:Int)≤1048576:=by have:=HAC.out;omega);cases st with
  | inr e=>
   have HFC:=Lib.hid (HF.out.trans (Pure.filtC_err _ e n acc));obtain ⟨x_,T_,u_,hb1,-⟩:=HRS.out;have j2:=(blk_cell hb1 2).trans (show _=some (.iface T_ u_) from rfl);clear hb1;obtain ⟨kp,hkp⟩:=print_toks s hsm acc HAC.out HTK.out;have HP:=Lib.hid (hkp kp (Nat.le_refl _));obtain ⟨A,c,rfl,hc,hC⟩:=Kd.R_reads HO.out;rw [List.length_map] at hc hC;(try rw [List.length_map] at hc);have HC:=Lib.hid hC;have HCP:=Lib.hid hc;have hlm:(acc.map tokS).length=acc.length:=List.length_map _;clear hkp hc hC;(go_wp2_with fail);(try rw [hlm]);refine (print_c (List.length_map _) HC.out HCP.out HP.out).mono ?_;rintro e w3 ⟨rfl,hb_⟩;obtain ⟨HST,HRS,HSG⟩:=carryB HST HRS HSG hb_;replace HR:=Lib.hid (blk_below HR.out hb_);clear hb_;obtain ⟨y0,y1,y2,y3,y4⟩:=cells5 HR.out;obtain ⟨yf0,yf1,yf2,yf3,yf4⟩:=frozen5 HR.out;go_wp2;(repeat (go_step3;go_wp2));(try rw [Exit.noGoto_ret]);refine bodyPost_ret (results_c rfl _ _ gr 83 _ (0,0) _ rfl (put5 _ _ _ _ _ HR.out) Tryd.underlying83 rfl (by kernel_rfl)) rfl ?_;have hrs_:=RSt.set5 (.int .i64 5) (.int .i64 0) (.int .i64 0) (.int .i64 0) (.string (strOfNums (Pure.printS acc))) (show b ≠ gr by omega) HRS.out HR.out;have hst_:=Step.set5w (.int .i64 5) (.int .i64 0) (.int .i64 0) (.int .i64 0) (.string (strOfNums (Pure.printS acc))) HST.out (show b≤gr by omega) HGEgr.out;(have hfin:Pure.filterC (bytesOf s) st0=(⟨5,0,0,0,Pure.printS acc⟩,.inr e):=by unfold Pure.filterC;rw [HM.out,HFC.out]);rw [hfin];exact ⟨rfl,hrs_,hst_⟩
  | inl a=>
   have ha:=HRS.out.1;have j2:=(blk_cell HRS.out.2 2).trans (show _=some .nilIface from rfl);obtain ⟨t,s1,hn⟩:∃ t s1,Pure.nx (bytesOf s) (.inl a)=(t,s1):=⟨_,_,rfl⟩;have hstep:=Pure.filtC_step (show a≤(bytesOf s).length by rw [bytesOf_length];exact ha) n acc;have hmore:=fun h0=>Pure.nx_more (show a≤(bytesOf s).length by rw [bytesOf_length];exact ha) h0;have htok:=nx_ok s (.inl a);rw [hn] at hstep hmore htok;dsimp only at hstep hmore htok;have HN:=Lib.hid hn;have HS:=Lib.hid (HF.out.trans hstep);have HTO:=Lib.hid htok;have HMO:=Lib.hid hmore;clear hn hstep hmore htok ha;(go_wp2_with fail);refine (rnext_calls s b (.inl a) _ HSG.out hsz HRS.out).mono ?_;rw [HN.out];rintro e w3 ⟨rfl,hrs,hst⟩;dsimp only at hrs;replace HO:=Lib.hid (R_step HRS.out HO.out hst);replace HST:=Lib.hid (HST.out.trans hst);replace HRS:=Lib.hid hrs;replace HSG:=Lib.hid (HSG.out.step hst hsb);replace HR:=Lib.hid (hst.blk HR.out (show gr ≠ b by omega));clear hrs hst;unfold tokV;clear j2;(go_upto_region 6 with (fail));have hba:=below_alloc (Below.refl w3.heap.size w3) (.cells #[.int .i64 t.kind,.int .i64 (t.at_:Int),.int .i64 (t.end_:Int),.int .i64 t.n,.string (strOfNums t.text)] 24);have hn_:=Lib.hid (blk_new w3 (.cells #[.int .i64 t.kind,.int .i64 (t.at_:Int),.int .i64 (t.end_:Int),.int .i64 t.n,.string (strOfNums t.text)] 24));have hggt:b < w3.heap.size:=HRS.out.lt;have HGEgt:=Lib.hid (show w0.heap.size≤w3.heap.size from HST.out.2.1);have hdgt_gr:gr < w3.heap.size:=blk_lt HR.out;obtain ⟨HST,HRS,HSG⟩:=carryB HST HRS HSG hba;replace HR:=Lib.hid (blk_below HR.out hba);replace HO:=Lib.hid (Kd.R_below HO.out hba);have HT:=hn_;clear hba hn_;generalize (w3.alloc (.cells #[.int .i64 t.kind,.int .i64 (t.at_:Int),.int .i64 (t.end_:Int),.int .i64 t.n,.string (strOfNums t.text)] 24))=w4 at HRS HSG HST HT HR HO ⊢;generalize w3.heap.size=gt at HT HGEgt hggt hdgt_gr ⊢;obtain ⟨c0,c1,c2,c3,c4⟩:=cells5 HT.out;by_cases h0:t.kind=0
   ·skip;have b0:(t.kind == 0)=true:=beq_iff_eq.2 h0;have HFC:=Lib.hid (HS.out.trans (if_pos h0));clear h0;(go_wp2_with fail);refine (bad_calls s b s1 t _ hsz HRS.out).mono ?_;rintro e w5 ⟨rfl,hrs,hst⟩;replace HO:=Lib.hid (R_step HRS.out HO.out hst);replace HST:=Lib.hid (HST.out.trans hst);replace HRS:=Lib.hid hrs;replace HSG:=Lib.hid (HSG.out.step hst hsb);replace HR:=Lib.hid (hst.blk HR.out (show gr ≠ b by omega));replace HT:=Lib.hid (hst.blk HT.out (show gt ≠ b by omega));clear hrs hst;clear c0 c1 c2 c3 c4;obtain ⟨kp,hkp⟩:=print_toks s hsm acc HAC.out HTK.out;have HP:=Lib.hid (hkp kp (Nat.le_refl _));obtain ⟨A,c,rfl,hc,hC⟩:=Kd.R_reads HO.out;rw [List.length_map] at hc hC;(try rw [List.length_map] at hc);have HC:=Lib.hid hC;have HCP:=Lib.hid hc;have hlm:(acc.map tokS).length=acc.length:=List.length_map _;clear hkp hc hC;(go_wp2_with fail);(try rw [hlm]);refine (print_c (List.length_map _) HC.out HCP.out HP.out).mono ?_;rintro e w6 ⟨rfl,hb_⟩;obtain ⟨HST,HRS,HSG⟩:=carryB HST HRS HSG hb_;replace HR:=Lib.hid (blk_below HR.out hb_);replace HT:=Lib.hid (blk_below HT.out hb_);clear hb_;obtain ⟨y0,y1,y2,y3,y4⟩:=cells5 HR.out;obtain ⟨yf0,yf1,yf2,yf3,yf4⟩:=frozen5 HR.out;go_wp2;(repeat (go_step3;go_wp2));(try rw [Exit.noGoto_ret]);refine bodyPost_ret (results_c rfl _ _ gr 83 _ (0,0) _ rfl (put5 _ _ _ _ _ HR.out) Tryd.underlying83 rfl (by kernel_rfl)) rfl ?_;have hrs_:=RSt.set5 (.int .i64 5) (.int .i64 0) (.int .i64 0) (.int .i64 0) (.string (strOfNums (Pure.printS acc))) (show b ≠ gr by omega) HRS.out HR.out;have hst_:=Step.set5w (.int .i64 5) (.int .i64 0) (.int .i64 0) (.int .i64 0) (.string (strOfNums (Pure.printS acc))) HST.out (show b≤gr by omega) HGEgr.out;(have hfin:Pure.filterC (bytesOf s) st0=(⟨5,0,0,0,Pure.printS acc⟩,Pure.bd (bytesOf s) t s1):=by unfold Pure.filterC;rw [HM.out,HFC.out]);rw [hfin];exact ⟨rfl,hrs_,hst_⟩
   ·skip;have b0:(t.kind == 0)=false:=beq_eq_false_iff_ne.2 h0;obtain ⟨nz,hc1,hac,hcl⟩:=HMO.out h0;subst hc1;rw [bytesOf_length] at hcl;have HS2:=Lib.hid (HS.out.trans (if_neg h0));have HCL:=Lib.hid hcl;have HAL:=Lib.hid hac;clear h0 hac hcl;(go_wp2_with fail);refine (is_calls t ⟨#[40]⟩ (Lib.hid HTO.out.1).out _).mono ?_;rintro e w5 ⟨rfl,hb_⟩;obtain ⟨HST,HRS,HSG⟩:=carryB HST HRS HSG hb_;replace HR:=Lib.hid (blk_below HR.out hb_);replace HT:=Lib.hid (blk_below HT.out hb_);replace HO:=Lib.hid (Kd.R_below HO.out hb_);clear hb_;have hbl:bytesOf (⟨#[40]⟩:ByteArray) = [40]:=rfl;rw [hbl];clear hbl c0 c1 c2 c3 c4;obtain ⟨c0,c1,c2,c3,c4⟩:=cells5 HT.out;cases h40:Pure.isS t [40] with
    | true=>
     have HFN:=Lib.hid (HS2.out.trans (if_pos h40));have hlm:(acc.map tokS).length=acc.length:=List.length_map _;go_wp2_with (first|((with_reducible refine gate_builtin (b:=.append) (xs:=#[.tmp 40,.tmp 42]) rfl ?_);at_builtin;refine Kd.R_append k24 (w0:=w5) w0.heap.size rfl (.tmp 40) (.tmp 42) 34 24 (.agg #[.int .i64 0,.int .i64 0,.int .i64 0,.int .i64 0,.string ⟨#[]⟩]) 48 rfl Tryd.underlying34 info24 rfl (by decide) (by omega) u3 (acc.map tokS) (tokS t) [.int .i64 t.kind,.int .i64 (t.at_:Int),.int .i64 (t.end_:Int),.int .i64 t.n,.string (strOfNums t.text)] (fun _=>True) (fun _=>False) rfl (by first|(go_simp;done)|(go_simp;rfl)) ?aP (fun _ hk=>hk.elim) ?aF ?aO ?aB ?aS ?aL ?_;(case aP=>exact k24_mkM _ _ _ (tokS t));(case aB=>exact Below.refl _ _);(case aF=>exact (fun _ _=>trivial));(case aO=>exact HO.out);(case aS=>exact HST.out.2.1);(case aL=>omega);intro v9 w9 ho hb hg hat;have HO9:=Lib.hid ho;have HK9:=Lib.hid (app_keep hb0 hsb HRS.out HSG.out HST.out HR.out (by decide) HO.out hb hg);clear hat hg ho hb));go_roundg (Pure.room (bytesOf s) (.inl nz))
     case measure=>have h1:=HKK.out;have h2:=HAL.out;have h3:=HCL.out;simp only [Pure.room,bytesOf_length] at h1 ⊢;omega
     case rel=>
      obtain ⟨q1,q2,q3,q4⟩:=HK9.out;have h1:=HAC2.out a rfl;have h2:=HAL.out;have h3:=HCL.out;refine ⟨acc++[t],n+1,.inl nz,rfl,q1,q2,q3,q4,by rw [List.map_append];exact HO9.out,HFN.out,rfl,by simp;omega,fun a2 h=>by obtain rfl:=Sum.inl.inj h;simp;omega,by simp;omega,by simp;omega,by simp;omega,fun u hu=>?_⟩;rcases List.mem_append.1 hu with hu|hu
      ·exact HTK.out u hu
      ·simp at hu;subst hu;exact HTO.out
    | false=>
     have HS3:=Lib.hid (HS2.out.trans (if_neg (by rw [h40];decide)));clear h40;(go_wp2_with fail);refine (is_calls t ⟨#[41]⟩ (Lib.hid HTO.out.1).out _).mono ?_;rintro e w6 ⟨rfl,hb_⟩;obtain ⟨HST,HRS,HSG⟩:=carryB HST HRS HSG hb_;replace HR:=Lib.hid (blk_below HR.out hb_);replace HT:=Lib.hid (blk_below HT.out hb_);replace HO:=Lib.hid (Kd.R_below HO.out hb_);clear hb_;have hbl:bytesOf (⟨#[41]⟩:ByteArray) = [41]:=rfl;rw [hbl];clear hbl c0 c1 c2 c3 c4;obtain ⟨c0,c1,c2,c3,c4⟩:=cells5 HT.out;cases h41:Pure.isS t [41] with
     | true=>
      have HS4:=Lib.hid (HS3.out.trans (if_pos h41));clear h41;by_cases hz:n - 1=0
      ·skip;have HS5:=Lib.hid (HS4.out.trans (if_pos hz));have bz:(n - 1 == 0)=true:=beq_iff_eq.2 hz;clear hz;by_cases hl0:acc.length=0
       ·skip;(have bl:((acc.length:Int) == 0)=true:=by simp [hl0]);have HFC:=Lib.hid (show Pure.filtC (bytesOf s) st1 1 []=(acc,Pure.bd (bytesOf s) t (.inl nz)) by rw [HS5.out,if_pos hl0]);have HL0:=Lib.hid hl0;clear hl0;obtain ⟨A1,cc1,rfl,-,-⟩:=Kd.R_reads HO.out;have hlm0:(acc.map tokS).length=acc.length:=List.length_map _;skip;(go_wp2_with fail);refine (bad_calls s b (.inl nz) t _ hsz HRS.out).mono ?_;rintro e w7 ⟨rfl,hrs,hst⟩;replace HO:=Lib.hid (R_step HRS.out HO.out hst);replace HST:=Lib.hid (HST.out.trans hst);replace HRS:=Lib.hid hrs;replace HSG:=Lib.hid (HSG.out.step hst hsb);replace HR:=Lib.hid (hst.blk HR.out (show gr ≠ b by omega));replace HT:=Lib.hid (hst.blk HT.out (show gt ≠ b by omega));clear hrs hst;clear c0 c1 c2 c3 c4 hlm0;obtain ⟨kp,hkp⟩:=print_toks s hsm acc HAC.out HTK.out;have HP:=Lib.hid (hkp kp (Nat.le_refl _));obtain ⟨-,hc,hC⟩:=Kd.R_reads' HO.out;rw [List.length_map] at hC;(try rw [List.length_map] at hc);have HC:=Lib.hid hC;have HCP:=Lib.hid hc;have hlm:(acc.map tokS).length=acc.length:=List.length_map _;clear hkp hc hC;(go_wp2_with fail);(try rw [hlm]);refine (print_c (List.length_map _) HC.out HCP.out HP.out).mono ?_;rintro e w8 ⟨rfl,hb_⟩;obtain ⟨HST,HRS,HSG⟩:=carryB HST HRS HSG hb_;replace HR:=Lib.hid (blk_below HR.out hb_);replace HT:=Lib.hid (blk_below HT.out hb_);clear hb_;obtain ⟨y0,y1,y2,y3,y4⟩:=cells5 HR.out;obtain ⟨yf0,yf1,yf2,yf3,yf4⟩:=frozen5 HR.out;go_wp2;(repeat (go_step3;go_wp2));(try rw [Exit.noGoto_ret]);refine bodyPost_ret (results_c rfl _ _ gr 83 _ (0,0) _ rfl (put5 _ _ _ _ _ HR.out) Tryd.underlying83 rfl (by kernel_rfl)) rfl ?_;have hrs_:=RSt.set5 (.int .i64 5) (.int .i64 0) (.int .i64 0) (.int .i64 0) (.string (strOfNums (Pure.printS acc))) (show b ≠ gr by omega) HRS.out HR.out;have hst_:=Step.set5w (.int .i64 5) (.int .i64 0) (.int .i64 0) (.int .i64 0) (.string (strOfNums (Pure.printS acc))) HST.out (show b≤gr by omega) HGEgr.out;(have hfin:Pure.filterC (bytesOf s) st0=(⟨5,0,0,0,Pure.printS acc⟩,Pure.bd (bytesOf s) t (.inl nz)):=by unfold Pure.filterC;rw [HM.out,HFC.out]);rw [hfin];exact ⟨rfl,hrs_,hst_⟩
       ·skip;(have bl:((acc.length:Int) == 0)=false:=by simpa using hl0);have HFC:=Lib.hid (show Pure.filtC (bytesOf s) st1 1 []=(acc,.inl nz) by rw [HS5.out,if_neg hl0]);clear hl0 c0 c1 c2 c3 c4;obtain ⟨kp,hkp⟩:=print_toks s hsm acc HAC.out HTK.out;have HP:=Lib.hid (hkp kp (Nat.le_refl _));obtain ⟨A,c,rfl,hc,hC⟩:=Kd.R_reads HO.out;rw [List.length_map] at hc hC;(try rw [List.length_map] at hc);have HC:=Lib.hid hC;have HCP:=Lib.hid hc;have hlm:(acc.map tokS).length=acc.length:=List.length_map _;clear hkp hc hC;(go_wp2_with fail);(try rw [hlm]);refine (print_c (List.length_map _) HC.out HCP.out HP.out).mono ?_;rintro e w7 ⟨rfl,hb_⟩;obtain ⟨HST,HRS,HSG⟩:=carryB HST HRS HSG hb_;replace HR:=Lib.hid (blk_below HR.out hb_);replace HT:=Lib.hid (blk_below HT.out hb_);clear hb_;obtain ⟨y0,y1,y2,y3,y4⟩:=cells5 HR.out;obtain ⟨yf0,yf1,yf2,yf3,yf4⟩:=frozen5 HR.out;go_wp2;(repeat (go_step3;go_wp2));(try rw [Exit.noGoto_ret]);refine bodyPost_ret (results_c rfl _ _ gr 83 _ (0,0) _ rfl (put5 _ _ _ _ _ HR.out) Tryd.underlying83 rfl (by kernel_rfl)) rfl ?_;have hrs_:=RSt.set5 (.int .i64 5) (.int .i64 0) (.int .i64 0) (.int .i64 0) (.string (strOfNums (Pure.printS acc))) (show b ≠ gr by omega) HRS.out HR.out;have hst_:=Step.set5w (.int .i64 5) (.int .i64 0) (.int .i64 0) (.int .i64 0) (.string (strOfNums (Pure.printS acc))) HST.out (show b≤gr by omega) HGEgr.out;(have hfin:Pure.filterC (bytesOf s) st0=(⟨5,0,0,0,Pure.printS acc⟩,.inl nz):=by unfold Pure.filterC;rw [HM.out,HFC.out]);rw [hfin];exact ⟨rfl,hrs_,hst_⟩
      ·skip;have bz:(n - 1 == 0)=false:=beq_eq_false_iff_ne.2 hz;have HS5:=Lib.hid (HS4.out.trans (if_neg hz));clear hz;have HFN:=Lib.hid (HS5.out);have hlm:(acc.map tokS).length=acc.length:=List.length_map _;go_wp2_with (first|((with_reducible refine gate_builtin (b:=.append) (xs:=#[.tmp 40,.tmp 42]) rfl ?_);at_builtin;refine Kd.R_append k24 (w0:=w6) w0.heap.size rfl (.tmp 40) (.tmp 42) 34 24 (.agg #[.int .i64 0,.int .i64 0,.int .i64 0,.int .i64 0,.string ⟨#[]⟩]) 48 rfl Tryd.underlying34 info24 rfl (by decide) (by omega) u3 (acc.map tokS) (tokS t) [.int .i64 t.kind,.int .i64 (t.at_:Int),.int .i64 (t.end_:Int),.int .i64 t.n,.string (strOfNums t.text)] (fun _=>True) (fun _=>False) rfl (by first|(go_simp;done)|(go_simp;rfl)) ?aP (fun _ hk=>hk.elim) ?aF ?aO ?aB ?aS ?aL ?_;(case aP=>exact k24_mkM _ _ _ (tokS t));(case aB=>exact Below.refl _ _);(case aF=>exact (fun _ _=>trivial));(case aO=>exact HO.out);(case aS=>exact HST.out.2.1);(case aL=>omega);intro v9 w9 ho hb hg hat;have HO9:=Lib.hid ho;have HK9:=Lib.hid (app_keep hb0 hsb HRS.out HSG.out HST.out HR.out (by decide) HO.out hb hg);clear hat hg ho hb));go_roundg (Pure.room (bytesOf s) (.inl nz))
       case measure=>have h1:=HKK.out;have h2:=HAL.out;have h3:=HCL.out;simp only [Pure.room,bytesOf_length] at h1 ⊢;omega
       case rel=>
        obtain ⟨q1,q2,q3,q4⟩:=HK9.out;have h1:=HAC2.out a rfl;have h2:=HAL.out;have h3:=HCL.out;refine ⟨acc++[t],n - 1,.inl nz,rfl,q1,q2,q3,q4,by rw [List.map_append];exact HO9.out,HFN.out,rfl,by simp;omega,fun a2 h=>by obtain rfl:=Sum.inl.inj h;simp;omega,by simp;omega,by simp;omega,by simp;omega,fun u hu=>?_⟩;rcases List.mem_append.1 hu with hu|hu
        ·exact HTK.out u hu
        ·simp at hu;subst hu;exact HTO.out
     | false=>
      have HFN:=Lib.hid (HS3.out.trans (if_neg (by rw [h41];decide)));have hlm:(acc.map tokS).length=acc.length:=List.length_map _;go_wp2_with (first|((with_reducible refine gate_builtin (b:=.append) (xs:=#[.tmp 40,.tmp 42]) rfl ?_);at_builtin;refine Kd.R_append k24 (w0:=w6) w0.heap.size rfl (.tmp 40) (.tmp 42) 34 24 (.agg #[.int .i64 0,.int .i64 0,.int .i64 0,.int .i64 0,.string ⟨#[]⟩]) 48 rfl Tryd.underlying34 info24 rfl (by decide) (by omega) u3 (acc.map tokS) (tokS t) [.int .i64 t.kind,.int .i64 (t.at_:Int),.int .i64 (t.end_:Int),.int .i64 t.n,.string (strOfNums t.text)] (fun _=>True) (fun _=>False) rfl (by first|(go_simp;done)|(go_simp;rfl)) ?aP (fun _ hk=>hk.elim) ?aF ?aO ?aB ?aS ?aL ?_;(case aP=>exact k24_mkM _ _ _ (tokS t));(case aB=>exact Below.refl _ _);(case aF=>exact (fun _ _=>trivial));(case aO=>exact HO.out);(case aS=>exact HST.out.2.1);(case aL=>omega);intro v9 w9 ho hb hg hat;have HO9:=Lib.hid ho;have HK9:=Lib.hid (app_keep hb0 hsb HRS.out HSG.out HST.out HR.out (by decide) HO.out hb hg);clear hat hg ho hb));go_roundg (Pure.room (bytesOf s) (.inl nz))
      case measure=>have h1:=HKK.out;have h2:=HAL.out;have h3:=HCL.out;simp only [Pure.room,bytesOf_length] at h1 ⊢;omega
      case rel=>
       obtain ⟨q1,q2,q3,q4⟩:=HK9.out;have h1:=HAC2.out a rfl;have h2:=HAL.out;have h3:=HCL.out;refine ⟨acc++[t],n,.inl nz,rfl,q1,q2,q3,q4,by rw [List.map_append];exact HO9.out,HFN.out,rfl,by simp;omega,fun a2 h=>by obtain rfl:=Sum.inl.inj h;simp;omega,by simp;omega,by simp;omega,by simp;omega,fun u hu=>?_⟩;rcases List.mem_append.1 hu with hu|hu
       ·exact HTK.out u hu
       ·simp at hu;subst hu;exact HTO.out
theorem filter_calls (s:ByteArray) (b:Nat) (st:Pure.St) (w:World) (hs:Signs w) (hsz:s.size≤140737488351232) (h:RSt w b s st) (hsb:0 < b) (hsm:s.size≤1048576) :
  Calls Tryd.prog 89 #[.pointer (some ⟨b,0,none⟩)] w fun e w'=>e = .returned (segV (Pure.filterC (bytesOf s) st).1)∧RSt w' b s (Pure.filterC (bytesOf s) st).2∧Step w w' b:=
 filter_aux s b st w w hs hsz h hsb ⟨Below.refl _ _,KeepBut.refl _ _ _⟩ h.lt hsm
end Go.Proofs.YtkbjblhompkdkaaDoor
namespace Go.Proofs.YtkbjblhompkdkaaDoor
open Go.RowKit Go.Proofs.YtkbjblhompkdkaaDoor.PA Go.Proofs.YtkbjblhompkdkaaDoor.PB Go.Proofs.YtkbjblhompkdkaaDoorW.PrintWords Go.Proofs.YtkbjblhompkdkaaDoorW.PrintLast
set_option linter.unusedVariables false
set_option linter.unusedSimpArgs false
set_option maxRecDepth 100000 in
set_option maxHeartbeats 8000000 in
theorem bracket_aux (s:ByteArray) (b:Nat) (st:Pure.St) (w0 w:World) (hs:Signs w) (hsz:s.size≤140737488351232) (h:RSt w b s st) (hsb:0 < b) (hst0:Step w0 w b) (hsm:s.size≤1048576) :
  Calls Tryd.prog 67 #[.pointer (some ⟨b,0,none⟩)] w fun e w'=>e = .returned (segV (Pure.bracketC (bytesOf s) st).1)∧RSt w' b s (Pure.bracketC (bytesOf s) st).2∧Step w0 w' b:=by
 have HRS:=Lib.hid h;have HSG:=Lib.hid hs;have HST:=Lib.hid hst0;clear h hs hst0;obtain ⟨t,s1,hn⟩:∃ t s1,Pure.nx (bytesOf s) st=(t,s1):=⟨_,_,rfl⟩;have HN:=Lib.hid hn;have HI:=Lib.hid (show Pure.InB t.text by have:=nx_inb s st;rwa [hn] at this);clear hn;(go_enter Tryd.func67,Tryd.ntmps67);(go_upto_region 1 with (fail));have hba:=below_alloc (Below.refl w.heap.size w) (.cells #[.int .i64 0,.int .i64 0,.int .i64 0,.int .i64 0,.string ⟨#[]⟩] 83);have hn_:=Lib.hid (blk_new w (.cells #[.int .i64 0,.int .i64 0,.int .i64 0,.int .i64 0,.string ⟨#[]⟩] 83));have hggr:b < w.heap.size:=HRS.out.lt;have HGEgr:=Lib.hid (show w0.heap.size≤w.heap.size from HST.out.2.1);obtain ⟨HST,HRS,HSG⟩:=carryB HST HRS HSG hba;have HR:=hn_;clear hba hn_;generalize (w.alloc (.cells #[.int .i64 0,.int .i64 0,.int .i64 0,.int .i64 0,.string ⟨#[]⟩] 83))=w1 at HRS HSG HST HR ⊢;generalize w.heap.size=gr at HR HGEgr hggr  ⊢;(go_upto_region 2 with (fail));have hba:=below_alloc (Below.refl w1.heap.size w1) (.cells #[.int .i64 0,.int .i64 0,.int .i64 0,.int .i64 0,.string ⟨#[]⟩] 83);have hn_:=Lib.hid (blk_new w1 (.cells #[.int .i64 0,.int .i64 0,.int .i64 0,.int .i64 0,.string ⟨#[]⟩] 83));have hggs:b < w1.heap.size:=HRS.out.lt;have HGEgs:=Lib.hid (show w0.heap.size≤w1.heap.size from HST.out.2.1);have hdgs_gr:gr < w1.heap.size:=blk_lt HR.out;obtain ⟨HST,HRS,HSG⟩:=carryB HST HRS HSG hba;replace HR:=Lib.hid (blk_below HR.out hba);have HV:=hn_;clear hba hn_;generalize (w1.alloc (.cells #[.int .i64 0,.int .i64 0,.int .i64 0,.int .i64 0,.string ⟨#[]⟩] 83))=w2 at HRS HSG HST HV HR ⊢;generalize w1.heap.size=gs at HV HGEgs hggs hdgs_gr ⊢;(go_wp2_with fail);refine (rnext_calls s b st _ HSG.out hsz HRS.out).mono ?_;rw [HN.out];rintro e w3 ⟨rfl,hrs,hst⟩;dsimp only at hrs;replace HST:=Lib.hid (HST.out.trans hst);replace HRS:=Lib.hid hrs;replace HSG:=Lib.hid (HSG.out.step hst hsb);replace HR:=Lib.hid (hst.blk HR.out (show gr ≠ b by omega));replace HV:=Lib.hid (hst.blk HV.out (show gs ≠ b by omega));clear hrs hst;unfold tokV;(go_upto_region 4 with (fail));have hba:=below_alloc (Below.refl w3.heap.size w3) (.cells #[.int .i64 t.kind,.int .i64 (t.at_:Int),.int .i64 (t.end_:Int),.int .i64 t.n,.string (strOfNums t.text)] 24);have hn_:=Lib.hid (blk_new w3 (.cells #[.int .i64 t.kind,.int .i64 (t.at_:Int),.int .i64 (t.end_:Int),.int .i64 t.n,.string (strOfNums t.text)] 24));have hggt:b < w3.heap.size:=HRS.out.lt;have HGEgt:=Lib.hid (show w0.heap.size≤w3.heap.size from HST.out.2.1);have hdgt_gr:gr < w3.heap.size:=blk_lt HR.out;have hdgt_gs:gs < w3.heap.size:=blk_lt HV.out;obtain ⟨HST,HRS,HSG⟩:=carryB HST HRS HSG hba;replace HR:=Lib.hid (blk_below HR.out hba);replace HV:=Lib.hid (blk_below HV.out hba);have HT:=hn_;clear hba hn_;generalize (w3.alloc (.cells #[.int .i64 t.kind,.int .i64 (t.at_:Int),.int .i64 (t.end_:Int),.int .i64 t.n,.string (strOfNums t.text)] 24))=w4 at HRS HSG HST HT HR HV ⊢;generalize w3.heap.size=gt at HT HGEgt hggt hdgt_gr hdgt_gs ⊢;obtain ⟨c0,c1,c2,c3,c4⟩:=cells5 HT.out;by_cases h3:t.kind=3
 ·skip;obtain ⟨u,s2,hn2⟩:∃ u s2,Pure.nx (bytesOf s) s1=(u,s2):=⟨_,_,rfl⟩;have HN2:=Lib.hid hn2;have HI2:=Lib.hid (show Pure.InB u.text by have:=nx_inb s s1;rwa [hn2] at this);clear hn2;have HA:=Lib.hid (show Pure.bracketC (bytesOf s) st=(if Pure.isS u [58]=true then Pure.sliceC (bytesOf s) t.n s2 else (⟨1,t.n,0,0,[]⟩,if Pure.isS u [93]=true then s2 else Pure.bd (bytesOf s) u s2)) by simp only [Pure.bracketC,HN.out,HN2.out,h3,if_true]);have b3:(t.kind == 3)=true:=beq_iff_eq.2 h3;clear h3;(go_wp2_with fail);refine (rnext_calls s b s1 _ HSG.out hsz HRS.out).mono ?_;rw [HN2.out];rintro e w5 ⟨rfl,hrs,hst⟩;dsimp only at hrs;replace HST:=Lib.hid (HST.out.trans hst);replace HRS:=Lib.hid hrs;replace HSG:=Lib.hid (HSG.out.step hst hsb);replace HR:=Lib.hid (hst.blk HR.out (show gr ≠ b by omega));replace HV:=Lib.hid (hst.blk HV.out (show gs ≠ b by omega));replace HT:=Lib.hid (hst.blk HT.out (show gt ≠ b by omega));clear hrs hst;unfold tokV;clear c0 c1 c2 c3 c4;(go_upto_region 6 with (fail));have hba:=below_alloc (Below.refl w5.heap.size w5) (.cells #[.int .i64 u.kind,.int .i64 (u.at_:Int),.int .i64 (u.end_:Int),.int .i64 u.n,.string (strOfNums u.text)] 24);have hn_:=Lib.hid (blk_new w5 (.cells #[.int .i64 u.kind,.int .i64 (u.at_:Int),.int .i64 (u.end_:Int),.int .i64 u.n,.string (strOfNums u.text)] 24));have hggu:b < w5.heap.size:=HRS.out.lt;have HGEgu:=Lib.hid (show w0.heap.size≤w5.heap.size from HST.out.2.1);have hdgu_gr:gr < w5.heap.size:=blk_lt HR.out;have hdgu_gs:gs < w5.heap.size:=blk_lt HV.out;have hdgu_gt:gt < w5.heap.size:=blk_lt HT.out;obtain ⟨HST,HRS,HSG⟩:=carryB HST HRS HSG hba;replace HR:=Lib.hid (blk_below HR.out hba);replace HV:=Lib.hid (blk_below HV.out hba);replace HT:=Lib.hid (blk_below HT.out hba);have HU:=hn_;clear hba hn_;generalize (w5.alloc (.cells #[.int .i64 u.kind,.int .i64 (u.at_:Int),.int .i64 (u.end_:Int),.int .i64 u.n,.string (strOfNums u.text)] 24))=w6 at HRS HSG HST HU HR HV HT ⊢;generalize w5.heap.size=gu at HU HGEgu hggu hdgu_gr hdgu_gs hdgu_gt ⊢;obtain ⟨d0,d1,d2,d3,d4⟩:=cells5 HU.out;(go_wp2_with fail);refine (is_calls u ⟨#[58]⟩ HI2.out _).mono ?_;rintro e w7 ⟨rfl,hb_⟩;obtain ⟨HST,HRS,HSG⟩:=carryB HST HRS HSG hb_;replace HR:=Lib.hid (blk_below HR.out hb_);replace HV:=Lib.hid (blk_below HV.out hb_);replace HT:=Lib.hid (blk_below HT.out hb_);replace HU:=Lib.hid (blk_below HU.out hb_);clear hb_;have hbl:bytesOf (⟨#[58]⟩:ByteArray) = [58]:=rfl;rw [hbl];clear hbl d0 d1 d2 d3 d4;cases h58:Pure.isS u [58] with
  | true=>
   have HC0:=Lib.hid (HA.out.trans (if_pos h58));clear h58;have c3:=(blk_cell HT.out 3).trans (show _=some (.int .i64 t.n) from rfl);obtain ⟨x,s3,hx⟩:∃ x s3,Pure.sliceC (bytesOf s) t.n s2=(x,s3):=⟨_,_,rfl⟩;have HX:=Lib.hid hx;clear hx;(go_wp2_with fail);refine (slice_calls s b t.n s2 _ HSG.out hsz HRS.out hsb).mono ?_;rw [HX.out];rintro e w8 ⟨rfl,hrs,hst⟩;dsimp only at hrs;replace HST:=Lib.hid (HST.out.trans hst);replace HRS:=Lib.hid hrs;replace HSG:=Lib.hid (HSG.out.step hst hsb);replace HR:=Lib.hid (hst.blk HR.out (show gr ≠ b by omega));replace HV:=Lib.hid (hst.blk HV.out (show gs ≠ b by omega));replace HT:=Lib.hid (hst.blk HT.out (show gt ≠ b by omega));replace HU:=Lib.hid (hst.blk HU.out (show gu ≠ b by omega));clear hrs hst c3;unfold segV;have HC:=Lib.hid (HC0.out.trans HX.out);have hfin:Pure.bracketC (bytesOf s) st=(x,s3):=HC.out;obtain ⟨y0,y1,y2,y3,y4⟩:=cells5 HR.out;obtain ⟨yf0,yf1,yf2,yf3,yf4⟩:=frozen5 HR.out;go_wp2;refine bodyPost_ret (results_c rfl _ _ gr 83 _ (0,0) _ rfl (put5 _ _ _ _ _ HR.out) Tryd.underlying83 rfl (by kernel_rfl)) rfl ?_;have hrs_:=RSt.set5 (.int .i64 x.kind) (.int .i64 x.n) (.int .i64 x.lo) (.int .i64 x.hi) (.string (strOfNums x.text)) (show b ≠ gr by omega) HRS.out HR.out;have hst_:=Step.set5w (.int .i64 x.kind) (.int .i64 x.n) (.int .i64 x.lo) (.int .i64 x.hi) (.string (strOfNums x.text)) HST.out (show b≤gr by omega) HGEgr.out;rw [hfin];exact ⟨rfl,hrs_,hst_⟩
  | false=>
   have HA2:=Lib.hid (HA.out.trans (if_neg (by rw [h58];decide)));clear h58;obtain ⟨d0,d1,d2,d3,d4⟩:=cells5 HU.out;(go_wp2_with fail);refine (is_calls u ⟨#[93]⟩ HI2.out _).mono ?_;rintro e w8 ⟨rfl,hb_⟩;obtain ⟨HST,HRS,HSG⟩:=carryB HST HRS HSG hb_;replace HR:=Lib.hid (blk_below HR.out hb_);replace HV:=Lib.hid (blk_below HV.out hb_);replace HT:=Lib.hid (blk_below HT.out hb_);replace HU:=Lib.hid (blk_below HU.out hb_);clear hb_;have hbl:bytesOf (⟨#[93]⟩:ByteArray) = [93]:=rfl;rw [hbl];clear hbl d0 d1 d2 d3 d4;cases h93:Pure.isS u [93] with
   | true=>
    have HC:=Lib.hid (show Pure.bracketC (bytesOf s) st=(⟨1,t.n,0,0,[]⟩,s2) by rw [HA2.out,h93];rfl);clear h93;have c3:=(blk_cell HT.out 3).trans (show _=some (.int .i64 t.n) from rfl);have hfin:Pure.bracketC (bytesOf s) st=(⟨1,t.n,0,0,[]⟩,s2):=HC.out;obtain ⟨y0,y1,y2,y3,y4⟩:=cells5 HR.out;obtain ⟨yf0,yf1,yf2,yf3,yf4⟩:=frozen5 HR.out;go_wp2;refine bodyPost_ret (results_c rfl _ _ gr 83 _ (0,0) _ rfl (put5 _ _ _ _ _ HR.out) Tryd.underlying83 rfl (by kernel_rfl)) rfl ?_;have hrs_:=RSt.set5 (.int .i64 1) (.int .i64 t.n) (.int .i64 0) (.int .i64 0) (.string ⟨#[]⟩) (show b ≠ gr by omega) HRS.out HR.out;have hst_:=Step.set5w (.int .i64 1) (.int .i64 t.n) (.int .i64 0) (.int .i64 0) (.string ⟨#[]⟩) HST.out (show b≤gr by omega) HGEgr.out;rw [hfin];exact ⟨rfl,hrs_,hst_⟩
   | false=>
    have HC:=Lib.hid (show Pure.bracketC (bytesOf s) st=(⟨1,t.n,0,0,[]⟩,Pure.bd (bytesOf s) u s2) by rw [HA2.out,h93];rfl);clear h93;obtain ⟨d0,d1,d2,d3,d4⟩:=cells5 HU.out;(go_wp2_with fail);refine (bad_calls s b s2 u _ hsz HRS.out).mono ?_;rintro e w9 ⟨rfl,hrs,hst⟩;replace HST:=Lib.hid (HST.out.trans hst);replace HRS:=Lib.hid hrs;replace HSG:=Lib.hid (HSG.out.step hst hsb);replace HR:=Lib.hid (hst.blk HR.out (show gr ≠ b by omega));replace HV:=Lib.hid (hst.blk HV.out (show gs ≠ b by omega));replace HT:=Lib.hid (hst.blk HT.out (show gt ≠ b by omega));replace HU:=Lib.hid (hst.blk HU.out (show gu ≠ b by omega));clear hrs hst;clear d0 d1 d2 d3 d4;have c3:=(blk_cell HT.out 3).trans (show _=some (.int .i64 t.n) from rfl);have hfin:Pure.bracketC (bytesOf s) st=(⟨1,t.n,0,0,[]⟩,Pure.bd (bytesOf s) u s2):=HC.out;obtain ⟨y0,y1,y2,y3,y4⟩:=cells5 HR.out;obtain ⟨yf0,yf1,yf2,yf3,yf4⟩:=frozen5 HR.out;go_wp2;refine bodyPost_ret (results_c rfl _ _ gr 83 _ (0,0) _ rfl (put5 _ _ _ _ _ HR.out) Tryd.underlying83 rfl (by kernel_rfl)) rfl ?_;have hrs_:=RSt.set5 (.int .i64 1) (.int .i64 t.n) (.int .i64 0) (.int .i64 0) (.string ⟨#[]⟩) (show b ≠ gr by omega) HRS.out HR.out;have hst_:=Step.set5w (.int .i64 1) (.int .i64 t.n) (.int .i64 0) (.int .i64 0) (.string ⟨#[]⟩) HST.out (show b≤gr by omega) HGEgr.out;rw [hfin];exact ⟨rfl,hrs_,hst_⟩
 ·skip;have HA:=Lib.hid (show Pure.bracketC (bytesOf s) st=(if Pure.isS t [58]=true then Pure.sliceC (bytesOf s) 0 s1 else if t.kind=4 then (⟨0,0,0,0,t.text⟩,Pure.mustC (bytesOf s) [93] s1) else if Pure.isS t [42]=true then (⟨3,0,0,0,[]⟩,Pure.mustC (bytesOf s) [93] s1) else if Pure.isS t [63]=true then ((Pure.filterC (bytesOf s) s1).1,Pure.mustC (bytesOf s) [93] (Pure.filterC (bytesOf s) s1).2) else (⟨0,0,0,0,[]⟩,Pure.mustC (bytesOf s) [93] (Pure.bd (bytesOf s) t s1))) by simp only [Pure.bracketC,HN.out,h3,if_false]);have b3:(t.kind == 3)=false:=beq_eq_false_iff_ne.2 h3;clear h3;(go_wp2_with fail);refine (is_calls t ⟨#[58]⟩ HI.out _).mono ?_;rintro e w5 ⟨rfl,hb_⟩;obtain ⟨HST,HRS,HSG⟩:=carryB HST HRS HSG hb_;replace HR:=Lib.hid (blk_below HR.out hb_);replace HV:=Lib.hid (blk_below HV.out hb_);replace HT:=Lib.hid (blk_below HT.out hb_);clear hb_;have hbl:bytesOf (⟨#[58]⟩:ByteArray) = [58]:=rfl;rw [hbl];clear hbl c0 c1 c2 c3 c4;cases h58:Pure.isS t [58] with
  | true=>
   have HC0:=Lib.hid (HA.out.trans (if_pos h58));clear h58;obtain ⟨x,s3,hx⟩:∃ x s3,Pure.sliceC (bytesOf s) 0 s1=(x,s3):=⟨_,_,rfl⟩;have HX:=Lib.hid hx;clear hx;(go_wp2_with fail);refine (slice_calls s b 0 s1 _ HSG.out hsz HRS.out hsb).mono ?_;rw [HX.out];rintro e w6 ⟨rfl,hrs,hst⟩;dsimp only at hrs;replace HST:=Lib.hid (HST.out.trans hst);replace HRS:=Lib.hid hrs;replace HSG:=Lib.hid (HSG.out.step hst hsb);replace HR:=Lib.hid (hst.blk HR.out (show gr ≠ b by omega));replace HV:=Lib.hid (hst.blk HV.out (show gs ≠ b by omega));replace HT:=Lib.hid (hst.blk HT.out (show gt ≠ b by omega));clear hrs hst ;unfold segV;have HC:=Lib.hid (HC0.out.trans HX.out);have hfin:Pure.bracketC (bytesOf s) st=(x,s3):=HC.out;obtain ⟨y0,y1,y2,y3,y4⟩:=cells5 HR.out;obtain ⟨yf0,yf1,yf2,yf3,yf4⟩:=frozen5 HR.out;go_wp2;refine bodyPost_ret (results_c rfl _ _ gr 83 _ (0,0) _ rfl (put5 _ _ _ _ _ HR.out) Tryd.underlying83 rfl (by kernel_rfl)) rfl ?_;have hrs_:=RSt.set5 (.int .i64 x.kind) (.int .i64 x.n) (.int .i64 x.lo) (.int .i64 x.hi) (.string (strOfNums x.text)) (show b ≠ gr by omega) HRS.out HR.out;have hst_:=Step.set5w (.int .i64 x.kind) (.int .i64 x.n) (.int .i64 x.lo) (.int .i64 x.hi) (.string (strOfNums x.text)) HST.out (show b≤gr by omega) HGEgr.out;rw [hfin];exact ⟨rfl,hrs_,hst_⟩
  | false=>
   have HA2:=Lib.hid (HA.out.trans (if_neg (by rw [h58];decide)));clear h58;obtain ⟨c0,c1,c2,c3,c4⟩:=cells5 HT.out;by_cases h4:t.kind=4
   ·skip;have HC:=Lib.hid (HA2.out.trans (if_pos h4));have b4:(t.kind == 4)=true:=beq_iff_eq.2 h4;clear h4;have y4:=(blk_cell HV.out 4).trans (show _=some (.string ⟨#[]⟩) from rfl);have yf4:=blk_frozen HV.out 4;(go_upto_region 19 with (fail));clear y4 yf4;have hset_:=Lib.hid (blk_put (cs':=#[.int .i64 0,.int .i64 0,.int .i64 0,.int .i64 0,.string (strOfNums t.text)]) HV.out 4 (.string (strOfNums t.text)) rfl);replace HRS:=Lib.hid (RSt.far 4 (.string (strOfNums t.text)) (show b ≠ gs by omega) HRS.out ⟨_,_,(blk_cell HV.out 1).trans (show _=some (.int .i64 0:Value) from rfl)⟩);replace HSG:=Lib.hid (Signs.far 4 (.string (strOfNums t.text)) (show (0:Nat) ≠ gs by omega) HSG.out);replace HST:=Lib.hid (Step.far 4 (.string (strOfNums t.text)) HST.out (show b≤gs by omega) HGEgs.out);replace HR:=Lib.hid (far1 4 (.string (strOfNums t.text)) (show gr ≠ gs by omega) HR.out);replace HT:=Lib.hid (far1 4 (.string (strOfNums t.text)) (show gt ≠ gs by omega) HT.out);have HV:=hset_;clear hset_;generalize (w5.setCell ⟨gs,4,none⟩ (.string (strOfNums t.text)))=w6 at HRS HSG HST HR HV HT ⊢;clear c0 c1 c2 c3 c4;(go_wp2_with fail);refine (must_calls s ⟨#[93]⟩ b (s1) _ HSG.out hsz HRS.out hsb).mono ?_;have hb93:bytesOf (⟨#[93]⟩:ByteArray) = [93]:=rfl;rw [hb93];clear hb93;rintro e w7 ⟨rfl,hrs,hst⟩;replace HST:=Lib.hid (HST.out.trans hst);replace HRS:=Lib.hid hrs;replace HSG:=Lib.hid (HSG.out.step hst hsb);replace HR:=Lib.hid (hst.blk HR.out (show gr ≠ b by omega));replace HV:=Lib.hid (hst.blk HV.out (show gs ≠ b by omega));replace HT:=Lib.hid (hst.blk HT.out (show gt ≠ b by omega));clear hrs hst;obtain ⟨v0,v1,v2,v3,v4⟩:=cells5 HV.out;have hfin:Pure.bracketC (bytesOf s) st=(⟨0,0,0,0,t.text⟩,Pure.mustC (bytesOf s) [93] (s1)):=HC.out;obtain ⟨y0,y1,y2,y3,y4⟩:=cells5 HR.out;obtain ⟨yf0,yf1,yf2,yf3,yf4⟩:=frozen5 HR.out;go_wp2;refine bodyPost_ret (results_c rfl _ _ gr 83 _ (0,0) _ rfl (put5 _ _ _ _ _ HR.out) Tryd.underlying83 rfl (by kernel_rfl)) rfl ?_;have hrs_:=RSt.set5 (.int .i64 0) (.int .i64 0) (.int .i64 0) (.int .i64 0) (.string (strOfNums t.text)) (show b ≠ gr by omega) HRS.out HR.out;have hst_:=Step.set5w (.int .i64 0) (.int .i64 0) (.int .i64 0) (.int .i64 0) (.string (strOfNums t.text)) HST.out (show b≤gr by omega) HGEgr.out;rw [hfin];exact ⟨rfl,hrs_,hst_⟩
   ·skip;have HA3:=Lib.hid (HA2.out.trans (if_neg h4));have b4:(t.kind == 4)=false:=beq_eq_false_iff_ne.2 h4;clear h4;(go_wp2_with fail);refine (is_calls t ⟨#[42]⟩ HI.out _).mono ?_;rintro e w6 ⟨rfl,hb_⟩;obtain ⟨HST,HRS,HSG⟩:=carryB HST HRS HSG hb_;replace HR:=Lib.hid (blk_below HR.out hb_);replace HV:=Lib.hid (blk_below HV.out hb_);replace HT:=Lib.hid (blk_below HT.out hb_);clear hb_;have hbl:bytesOf (⟨#[42]⟩:ByteArray) = [42]:=rfl;rw [hbl];clear hbl c0 c1 c2 c3 c4;cases h42:Pure.isS t [42] with
    | true=>
     have HC:=Lib.hid (HA3.out.trans (if_pos h42));clear h42;have y0:=(blk_cell HV.out 0).trans (show _=some (.int .i64 0) from rfl);have yf0:=blk_frozen HV.out 0;(go_upto_region 19 with (fail));clear y0 yf0;have hset_:=Lib.hid (blk_put (cs':=#[.int .i64 3,.int .i64 0,.int .i64 0,.int .i64 0,.string ⟨#[]⟩]) HV.out 0 (.int .i64 3) rfl);replace HRS:=Lib.hid (RSt.far 0 (.int .i64 3) (show b ≠ gs by omega) HRS.out ⟨_,_,(blk_cell HV.out 1).trans (show _=some (.int .i64 0:Value) from rfl)⟩);replace HSG:=Lib.hid (Signs.far 0 (.int .i64 3) (show (0:Nat) ≠ gs by omega) HSG.out);replace HST:=Lib.hid (Step.far 0 (.int .i64 3) HST.out (show b≤gs by omega) HGEgs.out);replace HR:=Lib.hid (far1 0 (.int .i64 3) (show gr ≠ gs by omega) HR.out);replace HT:=Lib.hid (far1 0 (.int .i64 3) (show gt ≠ gs by omega) HT.out);have HV:=hset_;clear hset_;generalize (w6.setCell ⟨gs,0,none⟩ (.int .i64 3))=w7 at HRS HSG HST HR HV HT ⊢;(go_wp2_with fail);refine (must_calls s ⟨#[93]⟩ b (s1) _ HSG.out hsz HRS.out hsb).mono ?_;have hb93:bytesOf (⟨#[93]⟩:ByteArray) = [93]:=rfl;rw [hb93];clear hb93;rintro e w8 ⟨rfl,hrs,hst⟩;replace HST:=Lib.hid (HST.out.trans hst);replace HRS:=Lib.hid hrs;replace HSG:=Lib.hid (HSG.out.step hst hsb);replace HR:=Lib.hid (hst.blk HR.out (show gr ≠ b by omega));replace HV:=Lib.hid (hst.blk HV.out (show gs ≠ b by omega));replace HT:=Lib.hid (hst.blk HT.out (show gt ≠ b by omega));clear hrs hst;obtain ⟨v0,v1,v2,v3,v4⟩:=cells5 HV.out;have hfin:Pure.bracketC (bytesOf s) st=(⟨3,0,0,0,[]⟩,Pure.mustC (bytesOf s) [93] (s1)):=HC.out;obtain ⟨y0,y1,y2,y3,y4⟩:=cells5 HR.out;obtain ⟨yf0,yf1,yf2,yf3,yf4⟩:=frozen5 HR.out;go_wp2;refine bodyPost_ret (results_c rfl _ _ gr 83 _ (0,0) _ rfl (put5 _ _ _ _ _ HR.out) Tryd.underlying83 rfl (by kernel_rfl)) rfl ?_;have hrs_:=RSt.set5 (.int .i64 3) (.int .i64 0) (.int .i64 0) (.int .i64 0) (.string ⟨#[]⟩) (show b ≠ gr by omega) HRS.out HR.out;have hst_:=Step.set5w (.int .i64 3) (.int .i64 0) (.int .i64 0) (.int .i64 0) (.string ⟨#[]⟩) HST.out (show b≤gr by omega) HGEgr.out;rw [hfin];exact ⟨rfl,hrs_,hst_⟩
    | false=>
     have HA4:=Lib.hid (HA3.out.trans (if_neg (by rw [h42];decide)));clear h42;obtain ⟨c0,c1,c2,c3,c4⟩:=cells5 HT.out;(go_wp2_with fail);refine (is_calls t ⟨#[63]⟩ HI.out _).mono ?_;rintro e w7 ⟨rfl,hb_⟩;obtain ⟨HST,HRS,HSG⟩:=carryB HST HRS HSG hb_;replace HR:=Lib.hid (blk_below HR.out hb_);replace HV:=Lib.hid (blk_below HV.out hb_);replace HT:=Lib.hid (blk_below HT.out hb_);clear hb_;have hbl:bytesOf (⟨#[63]⟩:ByteArray) = [63]:=rfl;rw [hbl];clear hbl c0 c1 c2 c3 c4;cases h63:Pure.isS t [63] with
     | true=>
      obtain ⟨x,s3,hx⟩:∃ x s3,Pure.filterC (bytesOf s) s1=(x,s3):=⟨_,_,rfl⟩;have HX:=Lib.hid hx;have HC:=Lib.hid (show Pure.bracketC (bytesOf s) st=(x,Pure.mustC (bytesOf s) [93] (s3)) by rw [HA4.out,if_pos h63,hx]);clear hx h63;(go_wp2_with fail);refine (filter_calls s b s1 _ HSG.out hsz HRS.out hsb hsm).mono ?_;rw [HX.out];rintro e w8 ⟨rfl,hrs,hst⟩;dsimp only at hrs;replace HST:=Lib.hid (HST.out.trans hst);replace HRS:=Lib.hid hrs;replace HSG:=Lib.hid (HSG.out.step hst hsb);replace HR:=Lib.hid (hst.blk HR.out (show gr ≠ b by omega));replace HV:=Lib.hid (hst.blk HV.out (show gs ≠ b by omega));replace HT:=Lib.hid (hst.blk HT.out (show gt ≠ b by omega));clear hrs hst;unfold segV;obtain ⟨y0,y1,y2,y3,y4⟩:=cells5 HV.out;obtain ⟨yf0,yf1,yf2,yf3,yf4⟩:=frozen5 HV.out;(go_upto_region 19 with (fail));clear y0 yf0 y1 yf1 y2 yf2 y3 yf3 y4 yf4;have hset_:=Lib.hid (put5 (.int .i64 x.kind) (.int .i64 x.n) (.int .i64 x.lo) (.int .i64 x.hi) (.string (strOfNums x.text)) HV.out);replace HRS:=Lib.hid (RSt.set5 (.int .i64 x.kind) (.int .i64 x.n) (.int .i64 x.lo) (.int .i64 x.hi) (.string (strOfNums x.text)) (show b ≠ gs by omega) HRS.out HV.out);replace HSG:=Lib.hid (Signs.set5 (.int .i64 x.kind) (.int .i64 x.n) (.int .i64 x.lo) (.int .i64 x.hi) (.string (strOfNums x.text)) (show (0:Nat) ≠ gs by omega) HSG.out);replace HST:=Lib.hid (Step.set5w (.int .i64 x.kind) (.int .i64 x.n) (.int .i64 x.lo) (.int .i64 x.hi) (.string (strOfNums x.text)) HST.out (show b≤gs by omega) HGEgs.out);replace HR:=Lib.hid (far5 (.int .i64 x.kind) (.int .i64 x.n) (.int .i64 x.lo) (.int .i64 x.hi) (.string (strOfNums x.text)) (show gr ≠ gs by omega) HR.out);replace HT:=Lib.hid (far5 (.int .i64 x.kind) (.int .i64 x.n) (.int .i64 x.lo) (.int .i64 x.hi) (.string (strOfNums x.text)) (show gt ≠ gs by omega) HT.out);have HV:=hset_;clear hset_;generalize (((((w8.setCell ⟨gs,0,none⟩ (.int .i64 x.kind)).setCell ⟨gs,1,none⟩ (.int .i64 x.n)).setCell ⟨gs,2,none⟩ (.int .i64 x.lo)).setCell ⟨gs,3,none⟩ (.int .i64 x.hi)).setCell ⟨gs,4,none⟩ (.string (strOfNums x.text)))=w9 at HRS HSG HST HR HV HT ⊢;(go_wp2_with fail);refine (must_calls s ⟨#[93]⟩ b (s3) _ HSG.out hsz HRS.out hsb).mono ?_;have hb93:bytesOf (⟨#[93]⟩:ByteArray) = [93]:=rfl;rw [hb93];clear hb93;rintro e w10 ⟨rfl,hrs,hst⟩;replace HST:=Lib.hid (HST.out.trans hst);replace HRS:=Lib.hid hrs;replace HSG:=Lib.hid (HSG.out.step hst hsb);replace HR:=Lib.hid (hst.blk HR.out (show gr ≠ b by omega));replace HV:=Lib.hid (hst.blk HV.out (show gs ≠ b by omega));replace HT:=Lib.hid (hst.blk HT.out (show gt ≠ b by omega));clear hrs hst;obtain ⟨v0,v1,v2,v3,v4⟩:=cells5 HV.out;have hfin:Pure.bracketC (bytesOf s) st=(x,Pure.mustC (bytesOf s) [93] (s3)):=HC.out;obtain ⟨y0,y1,y2,y3,y4⟩:=cells5 HR.out;obtain ⟨yf0,yf1,yf2,yf3,yf4⟩:=frozen5 HR.out;go_wp2;refine bodyPost_ret (results_c rfl _ _ gr 83 _ (0,0) _ rfl (put5 _ _ _ _ _ HR.out) Tryd.underlying83 rfl (by kernel_rfl)) rfl ?_;have hrs_:=RSt.set5 (.int .i64 x.kind) (.int .i64 x.n) (.int .i64 x.lo) (.int .i64 x.hi) (.string (strOfNums x.text)) (show b ≠ gr by omega) HRS.out HR.out;have hst_:=Step.set5w (.int .i64 x.kind) (.int .i64 x.n) (.int .i64 x.lo) (.int .i64 x.hi) (.string (strOfNums x.text)) HST.out (show b≤gr by omega) HGEgr.out;rw [hfin];exact ⟨rfl,hrs_,hst_⟩
     | false=>
      have HC:=Lib.hid (HA4.out.trans (if_neg (by rw [h63];decide)));clear h63;obtain ⟨c0,c1,c2,c3,c4⟩:=cells5 HT.out;(go_wp2_with fail);refine (bad_calls s b s1 t _ hsz HRS.out).mono ?_;rintro e w8 ⟨rfl,hrs,hst⟩;replace HST:=Lib.hid (HST.out.trans hst);replace HRS:=Lib.hid hrs;replace HSG:=Lib.hid (HSG.out.step hst hsb);replace HR:=Lib.hid (hst.blk HR.out (show gr ≠ b by omega));replace HV:=Lib.hid (hst.blk HV.out (show gs ≠ b by omega));replace HT:=Lib.hid (hst.blk HT.out (show gt ≠ b by omega));clear hrs hst;clear c0 c1 c2 c3 c4;(go_wp2_with fail);refine (must_calls s ⟨#[93]⟩ b (Pure.bd (bytesOf s) t s1) _ HSG.out hsz HRS.out hsb).mono ?_;have hb93:bytesOf (⟨#[93]⟩:ByteArray) = [93]:=rfl;rw [hb93];clear hb93;rintro e w9 ⟨rfl,hrs,hst⟩;replace HST:=Lib.hid (HST.out.trans hst);replace HRS:=Lib.hid hrs;replace HSG:=Lib.hid (HSG.out.step hst hsb);replace HR:=Lib.hid (hst.blk HR.out (show gr ≠ b by omega));replace HV:=Lib.hid (hst.blk HV.out (show gs ≠ b by omega));replace HT:=Lib.hid (hst.blk HT.out (show gt ≠ b by omega));clear hrs hst;obtain ⟨v0,v1,v2,v3,v4⟩:=cells5 HV.out;have hfin:Pure.bracketC (bytesOf s) st=(⟨0,0,0,0,[]⟩,Pure.mustC (bytesOf s) [93] (Pure.bd (bytesOf s) t s1)):=HC.out;obtain ⟨y0,y1,y2,y3,y4⟩:=cells5 HR.out;obtain ⟨yf0,yf1,yf2,yf3,yf4⟩:=frozen5 HR.out;go_wp2;refine bodyPost_ret (results_c rfl _ _ gr 83 _ (0,0) _ rfl (put5 _ _ _ _ _ HR.out) Tryd.underlying83 rfl (by kernel_rfl)) rfl ?_;have hrs_:=RSt.set5 (.int .i64 0) (.int .i64 0) (.int .i64 0) (.int .i64 0) (.string ⟨#[]⟩) (show b ≠ gr by omega) HRS.out HR.out;have hst_:=Step.set5w (.int .i64 0) (.int .i64 0) (.int .i64 0) (.int .i64 0) (.string ⟨#[]⟩) HST.out (show b≤gr by omega) HGEgr.out;rw [hfin];exact ⟨rfl,hrs_,hst_⟩
theorem bracket_calls (s:ByteArray) (b:Nat) (st:Pure.St) (w:World) (hs:Signs w) (hsz:s.size≤140737488351232) (h:RSt w b s st) (hsb:0 < b) (hsm:s.size≤1048576) :
  Calls Tryd.prog 67 #[.pointer (some ⟨b,0,none⟩)] w fun e w'=>e = .returned (segV (Pure.bracketC (bytesOf s) st).1)∧RSt w' b s (Pure.bracketC (bytesOf s) st).2∧Step w w' b:=
 bracket_aux s b st w w hs hsz h hsb ⟨Below.refl _ _,KeepBut.refl _ _ _⟩ hsm
end Go.Proofs.YtkbjblhompkdkaaDoor
namespace Go.Proofs.YtkbjblhompkdkaaDoor.Pure
open Go.Proofs.YtkbjblhompkdkaaDoor
def Ok (l:List Int) (a:Nat) (st:St):Prop:=∀ c,st = .inl c→a≤c∧c≤l.length
theorem Ok.nx {l:List Int} {a:Nat} {st:St} (h:Ok l a st):Ok l a (nx l st).2:=by
 cases st with
 | inr e=>intro c hc;simp [Pure.nx] at hc
 | inl b=>
  obtain ⟨h1,h2⟩:=h b rfl;cases hr:nextS l b with
  | inr e=>intro c hc;simp [Pure.nx,hr] at hc
  | inl t=>
   (have e:Pure.nx l (.inl b)=(t,.inl t.end_):=by simp only [Pure.nx,hr]);have hk:=nextS_ok h2 hr;intro c hc;rw [e] at hc;obtain rfl:=Sum.inl.inj hc;refine ⟨?_,hk.2.1⟩;by_cases h0:t.kind=0
   ·have:=hk.2.2.2.1 h0;omega
   ·have:=hk.2.2.2.2 h0;omega
theorem Ok.bd {l:List Int} {a:Nat} {st:St} (t:Tok):Ok l a (bd l t st):=by
 cases st <;> (intro c hc;simp [Pure.bd] at hc)
theorem Ok.pick {l:List Int} {a:Nat} {s1 s2:St} {p:Prop} [Decidable p] (h1:Ok l a s1) (h2:Ok l a s2):Ok l a (if p then s1 else s2):=by split <;> assumption
theorem Ok.must {l x:List Int} {a:Nat} {st:St} (h:Ok l a st):Ok l a (mustC l x st):=Ok.pick h.nx (Ok.bd _)
theorem Ok.slice {l:List Int} {a:Nat} {st:St} (lo:Int) (h:Ok l a st):Ok l a (sliceC l lo st).2:=by
 unfold sliceC;split
 ·exact h.nx.must
 ·exact Ok.pick h.nx (Ok.bd _)
theorem Ok.filtF {l:List Int} {a:Nat}:∀ (f:Nat) (st:St) (n:Int) (acc:List Tok),Ok l a st→Ok l a (filtF f l st n acc).2:=by
 intro f;induction f with
 | zero=>intro st n acc h;exact h
 | succ f ih=>
  intro st n acc h;cases st with
  | inr e=>exact h
  | inl b=>
   simp only [Pure.filtF];split
   ·exact Ok.bd _
   ·split
    ·exact ih _ _ _ h.nx
    ·split
     ·split
      ·exact Ok.pick (Ok.bd _) h.nx
      ·exact ih _ _ _ h.nx
     ·exact ih _ _ _ h.nx
theorem Ok.filter {l:List Int} {a:Nat} {st:St} (h:Ok l a st):Ok l a (filterC l st).2:=Ok.filtF _ _ _ _ h.must
theorem Ok.bracket {l:List Int} {a:Nat} {st:St} (h:Ok l a st):Ok l a (bracketC l st).2:=by
 unfold bracketC;split
 ·split
  ·exact h.nx.nx.slice _
  ·exact Ok.pick h.nx.nx (Ok.bd _)
 ·split
  ·exact h.nx.slice _
  ·split
   ·exact h.nx.must
   ·split
    ·exact h.nx.must
    ·split
     ·exact h.nx.filter.must
     ·exact (Ok.bd _).must
def pointC (l:List Int) (st:St):Seg × St:=
 if isS (nx l st).1 [42]=true then (⟨3,0,0,0,[]⟩,(nx l st).2)
 else (⟨0,0,0,0,(nx l st).1.text⟩,if (nx l st).1.kind=2 then (nx l st).2 else bd l (nx l st).1 (nx l st).2)
def segC (l:List Int) (t:Tok) (st:St):Seg × St:=
 if t.text = [91] then bracketC l st else if t.text = [46] then pointC l st else (⟨4,0,0,0,[]⟩,st)
theorem Ok.point {l:List Int} {a:Nat} {st:St} (h:Ok l a st):Ok l a (pointC l st).2:=by
 unfold pointC;split
 ·exact h.nx
 ·exact Ok.pick h.nx (Ok.bd _)
theorem Ok.seg {l:List Int} {a:Nat} {st:St} (t:Tok) (h:Ok l a st):Ok l a (segC l t st).2:=by
 unfold segC;split
 ·exact h.bracket
 ·split
  ·exact h.point
  ·exact h
def begins (t:Tok):Bool:=isS t [46] || isS t [46,46] || isS t [91]
def parF:Nat→List Int→St→List Seg→List Seg × St
 | 0,_,st,acc=>(acc,st)
 | f+1,l,st,acc=>
  match st with
  | .inr e=>(acc,.inr e)
  | .inl a=>
   match (nx l (.inl a)).2 with
   | .inr e=>(acc,.inr e)
   | .inl c=>
    if (nx l (.inl a)).1.kind=0 then (acc,.inl c)
    else if begins (nx l (.inl a)).1=false then (acc,.inr (badE l (nx l (.inl a)).1))
    else if acc.length=32 then (acc,.inr ((nx l (.inl a)).1.at_,14))
    else parF f l (segC l (nx l (.inl a)).1 (.inl c)).2 (acc++[(segC l (nx l (.inl a)).1 (.inl c)).1])
def parC (l:List Int) (st:St) (acc:List Seg):List Seg × St:=parF (room l st) l st acc
def parseC (l:List Int):List Seg ⊕ (Nat × Int):=match (parC l (mustC l [36] (.inl 0)) []).2 with
 | .inl _=>.inl (parC l (mustC l [36] (.inl 0)) []).1
 | .inr e=>.inr e
theorem parF_more (l:List Int):∀ (d:Nat) (st:St) (f:Nat) (acc:List Seg),Ok l 0 st→room l st≤d→d≤f→parF f l st acc=parF d l st acc:=by
 intro d;induction d with
 | zero=>
  intro st f acc hok hd;cases st with
  | inr e=>simp [room] at hd
  | inl a=>have:=hok a rfl;simp [room] at hd;omega
 | succ d ih=>
  intro st f acc hok hd hf;obtain ⟨f,rfl⟩:∃ g,f=g+1:=⟨f - 1,by omega⟩;cases st with
  | inr e=>rfl
  | inl a=>
   have ha:=hok a rfl;simp only [parF];cases hs:(nx l (.inl a)).2 with
   | inr e=>rfl
   | inl c=>
    simp only [];by_cases h0:(nx l (.inl a)).1.kind=0
    ·rw [if_pos h0,if_pos h0]
    ·rw [if_neg h0,if_neg h0];obtain ⟨c',hc',h1,h2⟩:=nx_more ha.2 h0;rw [hs] at hc';obtain rfl:=Sum.inl.inj hc';have hk:Ok l c (segC l (nx l (.inl a)).1 (.inl c)).2:=Ok.seg _ (fun x hx=>by obtain rfl:=Sum.inl.inj hx;exact ⟨Nat.le_refl _,h2⟩);have hk0:Ok l 0 (segC l (nx l (.inl a)).1 (.inl c)).2:=fun x hx=>⟨Nat.zero_le _,(hk x hx).2⟩;have hr:room l (segC l (nx l (.inl a)).1 (.inl c)).2≤d:=by
      cases hq:(segC l (nx l (.inl a)).1 (.inl c)).2 with
      | inr e=>simp only [room] at hd ⊢;omega
      | inl x=>have:=hk x hq;simp only [room] at hd ⊢;omega
     rw [ih _ f _ hk0 hr (by omega)]
theorem parC_err (l:List Int) (e:Nat × Int) (acc:List Seg):parC l (.inr e) acc=(acc,.inr e):=rfl
theorem parC_step {l:List Int} {a c:Nat} {t:Tok} (ha:a≤l.length) (hn:nx l (.inl a)=(t,.inl c)) (acc:List Seg):parC l (.inl a) acc =
  (if t.kind=0 then (acc,.inl c) else if begins t=false then (acc,.inr (badE l t)) else if acc.length=32 then (acc,.inr (t.at_,14)) else parC l (segC l t (.inl c)).2 (acc++[(segC l t (.inl c)).1])):=by
 (have hroom:room l (.inl a)=(l.length - a)+1:=by simp only [room];omega);unfold parC;rw [hroom];simp only [parF,hn];by_cases h0:t.kind=0
 ·rw [if_pos h0,if_pos h0]
 ·obtain ⟨c',hc',h1,h2⟩:=nx_more ha (by rw [hn];exact h0);rw [hn] at hc';obtain rfl:=Sum.inl.inj hc';have hk:Ok l c (segC l t (.inl c)).2:=Ok.seg _ (fun x hx=>by obtain rfl:=Sum.inl.inj hx;exact ⟨Nat.le_refl _,h2⟩);have hk0:Ok l 0 (segC l t (.inl c)).2:=fun x hx=>⟨Nat.zero_le _,(hk x hx).2⟩;have hr:room l (segC l t (.inl c)).2≤l.length - a:=by
   cases hq:(segC l t (.inl c)).2 with
   | inr e=>simp only [room];omega
   | inl x=>have:=hk x hq;simp only [room];omega
  rw [if_neg h0,if_neg h0,parF_more l _ _ (l.length - a) _ hk0 (Nat.le_refl _) hr]
theorem parC_bad {l:List Int} {a:Nat} {t:Tok} {e:Nat × Int} (hn:nx l (.inl a)=(t,.inr e)) (ha:a≤l.length) (acc:List Seg):parC l (.inl a) acc=(acc,.inr e):=by
 (have hroom:room l (.inl a)=(l.length - a)+1:=by simp only [room];omega);unfold parC;rw [hroom];simp only [parF,hn]
end Go.Proofs.YtkbjblhompkdkaaDoor.Pure

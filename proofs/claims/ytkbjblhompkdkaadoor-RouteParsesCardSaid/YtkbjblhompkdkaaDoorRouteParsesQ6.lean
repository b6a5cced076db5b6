/- YtkbjblhompkdkaaDoorRouteParsesQ6: LexBackP, RoutePure, LexAllLemmas, PAx9, PAx10, PBx0 -/
import Derived.Test.YtkbjblhompkdkaaDoorRouteParsesQ4
import Derived.Test.YtkbjblhompkdkaaDoorRouteParsesQ5
import Derived.Test.YtkbjblhompkdkaaDoorRouteParsesQ2
import Derived.Test.YtkbjblhompkdkaaDoorProg
import Derived.Below
import Derived.Deep.Draws
import Derived.Deep.AppendLies
import Derived.Maps.AppendAt
import Derived.OwnWalk
import Derived.Laws.BytesArg
import Derived.Laws.MakeOwn
import Derived.Laws.OwnMore
import Derived.Deep.OwnRows
import Derived.Tactics
import Derived.Lib.ConvBytes
import Derived.Laws.Slices
import Derived.WalkKit
import Derived.KernelRfl
import Derived.RowKit3
import Derived.Deep.LoopGhost
import Derived.Deep.QuietTactic
import Derived.BigQuiet
import Derived.WideLaws
import Derived.Deep.DeepCutAuto
import Derived.Deep.CutBlock
import Derived.Deep.RegionHeld3
import Derived.Laws.Rows
import Derived.Lib.AppendStr
import Derived.ArgAppend
import Derived.Laws.IdiomCopy
import Derived.OrdersHeld
import Derived.Laws.BitsLemmas
import Derived.RowKit
import Derived.Test.YtkbjblhompkdkaaDoorRouteParsesQ0
import Derived.Test.YtkbjblhompkdkaaDoorRouteParsesQ1
namespace Go.Proofs.YtkbjblhompkdkaaDoor.Pure
open Go.Proofs.YtkbjblhompkdkaaDoor
def reprT (t:Tok):List Int:=if t.kind=1 ∨ t.kind=2 then t.text else if t.kind=3 then digL t.n else if t.kind=4 then quoteL t.text else []
def tailP (ts:List Tok):List Int:=ts.flatMap fun t=>32 :: reprT t
def printS:List Tok→List Int
 | []=>[]
 | t :: ts=>reprT t++tailP ts
def Stops (r:List Int):Prop:=∀ c s,r=c :: s→c=32
theorem tailP_cons (t:Tok) (ts:List Tok):tailP (t :: ts) = [32]++(reprT t++tailP ts):=by simp [tailP]
def InB (l:List Int):Prop:=∀ x ∈ l,0≤x∧x≤255
theorem signs_again:∀ x ∈ signsL,signAt x=some x∧∀ c,x.head? = some c→¬ c=34∧¬ isLet c∧¬ (c=45 ∨ isDig c)∧blank c=false:=by
 (have h:(signsL.all fun x=>decide (signAt x=some x) && (match x with|[]=>true|c :: _=>decide (¬ c=34∧¬ isLet c∧¬ (c=45 ∨ isDig c)∧blank c=false)))=true:=by decide +kernel);intro x hx;have h1:=List.all_eq_true.1 h x hx;simp only [Bool.and_eq_true,decide_eq_true_eq] at h1;refine ⟨h1.1,fun c hc=>?_⟩;cases x with
 | nil=>simp at hc
 | cons d r=>
  (obtain rfl:d=c:=by simpa using hc);exact of_decide_eq_true h1.2
theorem signAt_blank (l r:List Int) (hl:∀ x ∈ l,x ≠ 32):signAt (l++32 :: r)=signAt l:=by
 unfold signAt;(have h32:∀ x ∈ signsL,∀ y ∈ x,y ≠ 32:=by decide);have key:∀ x ∈ signsL,x.isPrefixOf (l++32 :: r)=x.isPrefixOf l:=by
  intro x hx;have hx2:=h32 x hx;clear hx;revert hl;induction x generalizing l with
  | nil=>intro hl;simp
  | cons a x ih=>
   intro hl;cases l with
   | nil => 
    have:=hx2 a (by simp);simp [List.isPrefixOf,this]
   | cons b l=>
    simp only [List.cons_append,List.isPrefixOf];rw [ih l (fun y hy=>hx2 y (by simp [hy])) (fun y hy=>hl y (by simp [hy]))]
 have:∀ L:List (List Int),(∀ x ∈ L,x ∈ signsL)→L.find? (fun x=>x.isPrefixOf (l++32 :: r))=L.find? (fun x=>x.isPrefixOf l):=by
  intro L;induction L with
  | nil=>intro _;rfl
  | cons x L ih=>
   intro h;simp only [List.find?_cons];rw [key x (h x (by simp)),ih (fun y hy=>h y (by simp [hy]))]
 exact this signsL (fun x hx=>hx)
theorem signAt_stops (x r:List Int) (hx:x ∈ signsL) (hr:Stops r):signAt (x++r)=some x:=by
 (have h32:∀ x ∈ signsL,∀ y ∈ x,y ≠ 32:=by decide);cases r with
 | nil=>rw [List.append_nil];exact (signs_again x hx).1
 | cons c s=>
  obtain rfl:=hr c s rfl;rw [signAt_blank x s (h32 x hx)];exact (signs_again x hx).1
theorem take_lead (p:Int→Bool) (l r:List Int) (hl:∀ x ∈ l,p x=true) (hr:∀ c s,r=c :: s→p c=false):(l++r).take (lead p (l++r))=l:=by
 rw [lead_app p l r hl hr];simp
theorem tok_again {p:Nat} {l:List Int} {t:Tok} (hb:InB l) (h:tokAt p l = .inl t) (h0:t.kind ≠ 0) :
  (∃ c r,reprT t=c :: r∧blank c=false)∧(reprT t).length≤4 * (t.end_ - t.at_)∧InB (reprT t) ∧
  ∀ (q:Nat) (r:List Int),Stops r→tokAt q (reprT t++r) = .inl ⟨t.kind,q,q+(reprT t).length,t.n,t.text⟩:=by
 match l with
 | []=>simp only [tokAt,Sum.inl.injEq] at h;subst h;simp at h0
 | c :: r=>
  have hr1:=lead_le inName r;have hr2:=lead_le digB r;have hub:=unquoteL_bytes (c :: r) hb;have hul:=unquoteL_len (c :: r);simp only [tokAt] at h;split at h
  ·split at h
   ·rename_i h1 h2;simp only [Sum.inl.injEq] at h;subst h;have hl2:=hul.2 h2;generalize (unquoteL (c :: r)).1=x at *
    (have e:reprT ⟨4,p,p+(unquoteL (c :: r)).2.1,0,x⟩=quoteL x:=by simp [reprT]);rw [e];have hq:=qbody_length x;refine ⟨⟨34,_,rfl,by decide⟩,by simp [quoteL];omega,quoteL_bytes x hub.1,fun q r' hr'=>?_⟩;have hx:=unquote_quote x r' hub.1;(have e2:quoteL x++r'=34 :: (qbody x++[34]++r'):=by simp [quoteL]);rw [e2] at hx ⊢;simp only [tokAt];rw [if_pos trivial,if_pos (by rw [hx]),hx]
   ·simp at h
  ·rename_i h34;split at h
   ·rename_i hlet;simp only [Sum.inl.injEq] at h;subst h;(have e:∀ a b,reprT ⟨2,a,b,0,c :: r.take (lead inName r)⟩=c :: r.take (lead inName r):=by intro a b;simp [reprT]);rw [e];have hbl:blank c=false:=by
     unfold isLet at hlet;simp [blank];omega
    refine ⟨⟨c,_,rfl,hbl⟩,by simp;omega,fun x hx=>?_,fun q r' hr'=>?_⟩
    ·rcases List.mem_cons.1 hx with rfl|hx
     ·exact hb _ (by simp)
     ·exact hb x (by simp [List.mem_of_mem_take hx])
    ·simp only [List.cons_append,tokAt];rw [if_neg h34,if_pos hlet];have hs:∀ d s,r'=d :: s→inName d=false:=by
      intro d s e;have:=hr' d s e;subst this;decide
     have hle:=lead_app inName (r.take (lead inName r)) r' (lead_all inName r) hs;have htk:=take_lead inName (r.take (lead inName r)) r' (lead_all inName r) hs;rw [htk,hle];simp only [List.length_cons];rw [show q+1+(r.take (lead inName r)).length=q+((r.take (lead inName r)).length+1) by omega]
   ·rename_i hlet;split at h
    ·rename_i hdig;split at h
     ·rename_i h2;simp only [Sum.inl.injEq] at h;subst h;have hback:=digL_parseS _ h2;have hrange:=parseS_range (c :: r.take (lead digB r));have hround:=parseS_digL _ hrange.1 hrange.2;(have e:∀ a b n,reprT ⟨3,a,b,n,[]⟩=digL n:=by intro a b n;simp [reprT]);rw [e,hback];have hbl:blank c=false:=by
       unfold isDig at hdig;simp [blank];omega
      refine ⟨⟨c,_,rfl,hbl⟩,by simp;omega,fun x hx=>?_,fun q r' hr'=>?_⟩
      ·rcases List.mem_cons.1 hx with rfl|hx
       ·exact hb _ (by simp)
       ·exact hb x (by simp [List.mem_of_mem_take hx])
      ·simp only [List.cons_append,tokAt];rw [if_neg h34,if_neg hlet,if_pos hdig];have hs:∀ d s,r'=d :: s→digB d=false:=by
        intro d s e;have:=hr' d s e;subst this;decide
       have hle:=lead_app digB (r.take (lead digB r)) r' (lead_all digB r) hs;have htk:=take_lead digB (r.take (lead digB r)) r' (lead_all digB r) hs;rw [htk,hle,if_pos h2];simp only [List.length_cons];rw [show q+1+(r.take (lead digB r)).length=q+((r.take (lead digB r)).length+1) by omega]
     ·simp at h
    ·split at h
     ·rename_i x hx;obtain ⟨hp,hm⟩:=signAt_len hx;have hpos:=signs_pos x hm;have hag:=signs_again x hm;simp only [Sum.inl.injEq] at h;subst h;(have e:∀ a b,reprT ⟨1,a,b,0,x⟩=x:=by intro a b;simp [reprT]);rw [e];cases x with
      | nil=>simp at hpos
      | cons d y=>
       obtain ⟨g1,g2,g3,g4⟩:=hag.2 d rfl;refine ⟨⟨d,y,rfl,g4⟩,by simp;omega,fun z hz=>?_,fun q r' hr'=>?_⟩
       ·have hsub:=(List.isPrefixOf_iff_prefix.1 hp).subset;exact hb z (hsub hz)
       ·have hs:=signAt_stops (d :: y) r' hm hr';simp only [List.cons_append,tokAt] at hs ⊢;rw [if_neg g1,if_neg g2,if_neg g3,hs]
     ·simp at h
inductive Good (l:List Int):Tok→Prop
 | mk (p q:Nat) (t:Tok) (h:tokAt p (l.drop q) = .inl t) (h0:t.kind ≠ 0):Good l t
theorem InB.drop {l:List Int} (h:InB l) (q:Nat):InB (l.drop q):=fun x hx=>h x (List.mem_of_mem_drop hx)
theorem allS_good (l:List Int) (ts:List Tok):∀ a,a≤l.length→allS l a = .inl ts→∀ t ∈ ts,Good l t:=by
 induction ts with
 | nil=>intro a ha h t ht;simp at ht
 | cons u ts ih=>
  intro a ha h;rw [allS_step l ha] at h;cases hn:nextS l a with
  | inr e=>rw [hn] at h;simp at h
  | inl t=>
   have hk:=nextS_ok ha hn;rw [hn] at h;simp only [] at h;split at h
   ·simp at h
   ·rename_i h0;cases hm:allS l t.end_ with
    | inr e=>rw [hm] at h;simp at h
    | inl vs=>
     rw [hm] at h;simp only [Sum.inl.injEq,List.cons.injEq] at h;obtain ⟨rfl,rfl⟩:=h;intro v hv;rcases List.mem_cons.1 hv with rfl|hv
     ·exact Good.mk _ _ _ hn h0
     ·exact ih _ hk.2.1 hm v hv
theorem print_bytes {l:List Int} (hl:InB l) (ts:List Tok) (hg:∀ t ∈ ts,Good l t):InB (printS ts):=by
 have ht:∀ t ∈ ts,InB (reprT t):=by
  intro t h;obtain ⟨p,q,t,h1,h0⟩:=hg t h;exact (tok_again (hl.drop q) h1 h0).2.2.1
 have htl:∀ us:List Tok,(∀ t ∈ us,InB (reprT t))→InB (tailP us):=by
  intro us hu x hx;simp only [tailP,List.mem_flatMap] at hx;obtain ⟨t,h1,h2⟩:=hx;rcases List.mem_cons.1 h2 with rfl|h2
  ·omega
  ·exact hu t h1 x h2
 cases ts with
 | nil=>intro x hx;simp [printS] at hx
 | cons t ts=>
  intro x hx;rcases List.mem_append.1 hx with hx|hx
  ·exact ht t (by simp) x hx
  ·exact htl ts (fun u hu=>ht u (by simp [hu])) x hx
end Go.Proofs.YtkbjblhompkdkaaDoor.Pure
namespace Go.Proofs.YtkbjblhompkdkaaDoor.Pure
open Go.Proofs.YtkbjblhompkdkaaDoor
def tok0:Tok:=⟨0,0,0,0,[]⟩
abbrev St:=Nat ⊕ (Nat × Int)
def nx (l:List Int):St→Tok × St
 | .inr e=>(tok0,.inr e)
 | .inl a=>match nextS l a with
  | .inl t=>(t,.inl t.end_)
  | .inr e=>(tok0,.inr e)
def badE (l:List Int) (t:Tok):Nat × Int:=if t.kind=0 then (l.length,10) else (t.at_,2)
def bd (l:List Int) (t:Tok):St→St
 | .inr e=>.inr e
 | .inl _=>.inr (badE l t)
def isS (t:Tok) (x:List Int):Bool:=decide (t.kind=1∧t.text=x)
def mustC (l x:List Int) (st:St):St:=if isS (nx l st).1 x=true then (nx l st).2 else bd l (nx l st).1 (nx l st).2
structure Seg where
 kind:Int
 n:Int
 lo:Int
 hi:Int
 text:List Int
def sliceC (l:List Int) (lo:Int) (st:St):Seg × St:=
 if (nx l st).1.kind=3 then (⟨2,0,lo,(nx l st).1.n,[]⟩,mustC l [93] (nx l st).2)
 else (⟨2,0,lo,9223372036854775807,[]⟩,if isS (nx l st).1 [93]=true then (nx l st).2 else bd l (nx l st).1 (nx l st).2)
def filtF:Nat→List Int→St→Int→List Tok→List Tok × St
 | 0,_,st,_,acc=>(acc,st)
 | f+1,l,st,n,acc=>
  match st with
  | .inr e=>(acc,.inr e)
  | .inl a=>
   if (nx l (.inl a)).1.kind=0 then (acc,bd l (nx l (.inl a)).1 (nx l (.inl a)).2)
   else if isS (nx l (.inl a)).1 [40]=true then filtF f l (nx l (.inl a)).2 (n+1) (acc++[(nx l (.inl a)).1])
   else if isS (nx l (.inl a)).1 [41]=true then
    if n - 1=0 then (acc,if acc.length=0 then bd l (nx l (.inl a)).1 (nx l (.inl a)).2 else (nx l (.inl a)).2)
    else filtF f l (nx l (.inl a)).2 (n - 1) (acc++[(nx l (.inl a)).1])
   else filtF f l (nx l (.inl a)).2 n (acc++[(nx l (.inl a)).1])
def room (l:List Int):St→Nat
 | .inl a=>l.length+1 - a
 | .inr _=>1
def filtC (l:List Int) (st:St) (n:Int) (acc:List Tok):List Tok × St:=filtF (room l st) l st n acc
def filterC (l:List Int) (st:St):Seg × St:=(⟨5,0,0,0,printS (filtC l (mustC l [40] st) 1 []).1⟩,(filtC l (mustC l [40] st) 1 []).2)
def bracketC (l:List Int) (st:St):Seg × St:=
 if (nx l st).1.kind=3 then
  if isS (nx l (nx l st).2).1 [58]=true then sliceC l (nx l st).1.n (nx l (nx l st).2).2
  else (⟨1,(nx l st).1.n,0,0,[]⟩,if isS (nx l (nx l st).2).1 [93]=true then (nx l (nx l st).2).2 else bd l (nx l (nx l st).2).1 (nx l (nx l st).2).2)
 else if isS (nx l st).1 [58]=true then sliceC l 0 (nx l st).2
 else if (nx l st).1.kind=4 then (⟨0,0,0,0,(nx l st).1.text⟩,mustC l [93] (nx l st).2)
 else if isS (nx l st).1 [42]=true then (⟨3,0,0,0,[]⟩,mustC l [93] (nx l st).2)
 else if isS (nx l st).1 [63]=true then ((filterC l (nx l st).2).1,mustC l [93] (filterC l (nx l st).2).2)
 else (⟨0,0,0,0,[]⟩,mustC l [93] (bd l (nx l st).1 (nx l st).2))
end Go.Proofs.YtkbjblhompkdkaaDoor.Pure
namespace Go.Proofs.YtkbjblhompkdkaaDoor
open Go.RowKit Go.Proofs.YtkbjblhompkdkaaDoor.PA Go.Proofs.YtkbjblhompkdkaaDoorW.PrintWords Go.Proofs.YtkbjblhompkdkaaDoorW.PrintLast
theorem follow_len {l:List Int} (ts:List Pure.Tok):∀ a,Pure.Follow l a ts→ts.length+a≤l.length:=by
 induction ts with
 | nil=>intro a h;have:=h.1;simp;exact this
 | cons t ts ih=>
  intro a h;obtain ⟨h1,h2,h3,_,h5⟩:=h;have:=ih t.end_ h5;simp;omega
theorem allR_ok {l:List Int} {ts:List Pure.Tok} (h:allR l = .inl ts):Pure.Follow l 0 ts∧ts.length≤l.length∧Pure.allS l 0 = .inl ts:=by
 unfold allR at h;split at h
 ·simp at h
 ·have hf:=Pure.allS_follow l ts 0 (Nat.zero_le _) h;exact ⟨hf,by have:=follow_len ts 0 hf;omega,h⟩
theorem tok_parts {p:Nat} {l:List Int} {t:Pure.Tok} (hb:Pure.InB l) (h:Pure.tokAt p l = .inl t):Pure.InB t.text∧t.text.length≤l.length ∧ -9223372036854775808≤t.n∧t.n≤9223372036854775807:=by
 match l with
 | []=>simp only [Pure.tokAt,Sum.inl.injEq] at h;subst h;simp [Pure.InB]
 | c :: r=>
  have hr1:=Pure.lead_le Pure.inName r;have hub:=Pure.unquoteL_bytes (c :: r) hb;simp only [Pure.tokAt] at h;split at h
  ·split at h
   ·simp only [Sum.inl.injEq] at h;subst h;exact ⟨hub.1,hub.2,by simp,by simp⟩
   ·simp at h
  ·split at h
   ·simp only [Sum.inl.injEq] at h;subst h;refine ⟨fun x hx=>?_,by simp;omega,by simp,by simp⟩;rcases List.mem_cons.1 hx with rfl|hx
    ·exact hb _ (by simp)
    ·exact hb x (by simp [List.mem_of_mem_take hx])
   ·split at h
    ·split at h
     ·simp only [Sum.inl.injEq] at h;subst h;have:=Pure.parseS_range (c :: r.take (Pure.lead Pure.digB r));exact ⟨fun x hx=>by simp at hx,by simp,this.1,this.2⟩
     ·simp at h
    ·split at h
     ·rename_i x hx;obtain ⟨hp,hm⟩:=Pure.signAt_len hx;have hpre:=List.isPrefixOf_iff_prefix.1 hp;simp only [Sum.inl.injEq] at h;subst h;exact ⟨fun z hz=>hb z (hpre.subset hz),hpre.length_le,by simp,by simp⟩
     ·simp at h
theorem toks_ok {l:List Int} (hb:Pure.InB l) {ts:List Pure.Tok} (h:Pure.allS l 0 = .inl ts):∀ t ∈ ts,Pure.InB t.text∧t.text.length≤l.length ∧ -9223372036854775808≤t.n∧t.n≤9223372036854775807:=by
 intro t ht;obtain ⟨p,q,t,h1,h0⟩:=Pure.allS_good l ts 0 (Nat.zero_le _) h t ht;obtain ⟨h2,h3,h4⟩:=tok_parts (hb.drop q) h1;exact ⟨h2,by simp at h3;omega,h4⟩
end Go.Proofs.YtkbjblhompkdkaaDoor
namespace Go.Proofs.YtkbjblhompkdkaaDoor.PA
open Go.RowKit Go.Proofs.YtkbjblhompkdkaaDoorW.PrintWords Go.Proofs.YtkbjblhompkdkaaDoorW.PrintLast
set_option linter.unusedVariables false
set_option linter.unusedSimpArgs false
def quote_Quote.l0:Nat→ByteArray→List Int→Int→Int→Option (ByteArray)
 | 0,_,_,_,_=>none
 | k+1,x0,x3,x15,x16=>if x16 < x15 then (if 0≤x16 then (if x16 < (x0.size:Int) then ((quote_letter.f (bt x0 x16)).bind fun t203=>(if t203 > 0 then ((some (([92,t203]:List Int):List Int)).bind fun y204=>(if x3.length+y204.length < 140737488355328 then (quote_Quote.l0 k x0 (x3++y204) x15 (wrap64 (x16+1))) else (none))) else (if (bt x0 x16) < 32 then (if 0≤((bt x0 x16) / 16) then (if ((bt x0 x16) / 16) < 16 then (if 0≤(Go.bits .and .u8 (bt x0 x16) 15) then (if (Go.bits .and .u8 (bt x0 x16) 15) < 16 then ((some (([92,120,bt (⟨#[48,49,50,51,52,53,54,55,56,57,97,98,99,100,101,102]⟩:ByteArray) ((bt x0 x16) / 16),bt (⟨#[48,49,50,51,52,53,54,55,56,57,97,98,99,100,101,102]⟩:ByteArray) (Go.bits .and .u8 (bt x0 x16) 15)]:List Int):List Int)).bind fun y210=>(if x3.length+y210.length < 140737488355328 then (quote_Quote.l0 k x0 (x3++y210) x15 (wrap64 (x16+1))) else (none))) else (none)) else (none)) else (none)) else (none)) else (if (bt x0 x16) > 126 then (if 0≤((bt x0 x16) / 16) then (if ((bt x0 x16) / 16) < 16 then (if 0≤(Go.bits .and .u8 (bt x0 x16) 15) then (if (Go.bits .and .u8 (bt x0 x16) 15) < 16 then ((some (([92,120,bt (⟨#[48,49,50,51,52,53,54,55,56,57,97,98,99,100,101,102]⟩:ByteArray) ((bt x0 x16) / 16),bt (⟨#[48,49,50,51,52,53,54,55,56,57,97,98,99,100,101,102]⟩:ByteArray) (Go.bits .and .u8 (bt x0 x16) 15)]:List Int):List Int)).bind fun y216=>(if x3.length+y216.length < 140737488355328 then (quote_Quote.l0 k x0 (x3++y216) x15 (wrap64 (x16+1))) else (none))) else (none)) else (none)) else (none)) else (none)) else (if x3.length < 140737488355328 then (quote_Quote.l0 k x0 (x3++[bt x0 x16]) x15 (wrap64 (x16+1))) else (none)))))) else (none)) else (none)) else (if x3.length < 140737488355328 then (some (strOfNums (x3++[34]))) else (none))
def quote_Quote.f (k:Nat) (a0:ByteArray):Option (ByteArray):=if 0≤(wrap64 ((a0.size:Int)+2)) then (if (wrap64 ((a0.size:Int)+2):Int).toNat≤281474976710656 then ((some (([]:List Int):List Int)).bind fun y194=>(if y194.length < 140737488355328 then (quote_Quote.l0 k a0 (y194++[34]) (a0.size:Int) 0) else (none))) else (none)) else (none)
def quote_Quote.T11:Bool × List (List Nat × List Nat):=(true,[([],[]),([],[]),([1],[1]),([2],[2]),([],[]),([4],[4]),([5],[5]),([3,6],[3,6]),([0,7],[0,7]),([8,8,0,1,2,3,4,5,6,7,8],[0,8])])
def quote_Quote.B11:List Nat:=[0,0,2,6,0,16,48,126,255,511]
theorem quote_Quote.tab11:rtab .any (opsOf Tryd.f58 11)=quote_Quote.T11:=by kernel_rfl
theorem quote_Quote.bits11:waitsOk quote_Quote.T11.2 quote_Quote.B11=true:=by kernel_rfl
set_option maxHeartbeats 8000000 in
set_option maxRecDepth 100000 in
theorem quote_Quote.calls (k:Nat) (a0:ByteArray) (r:ByteArray) (w:World) (h:quote_Quote.f k a0=some r) :
  Calls Tryd.prog 58 #[.string a0] w fun e w'=>e = .returned (.string r)∧Below w.heap.size w w':=by
 have HB:=Aside0.mk (Below.refl w.heap.size w);have H:(if 0≤(wrap64 ((a0.size:Int)+2)) then (if (wrap64 ((a0.size:Int)+2):Int).toNat≤281474976710656 then ((some (([]:List Int):List Int)).bind fun y194=>(if y194.length < 140737488355328 then (quote_Quote.l0 k a0 (y194++[34]) (a0.size:Int) 0) else (none))) else (none)) else (none))=some r:=h;clear h;obtain ⟨ji2,hji2⟩:∃ j_:Int,(wrap64 ((a0.size:Int)+2))=j_:=⟨_,rfl⟩;(replace H:(if 0≤(ji2) then (if (ji2:Int).toNat≤281474976710656 then ((some (([]:List Int):List Int)).bind fun y194=>(if y194.length < 140737488355328 then (quote_Quote.l0 k a0 (y194++[34]) (a0.size:Int) 0) else (none))) else (none)) else (none))=some r:=by first|(rw [hji2] at H;exact H)|(simp only [hji2] at H ⊢;exact H));have hji2w:(IntKind.i64.wrap ((a0.size:Int)+2))=ji2:=(i64_w _).trans hji2;by_cases c3:0≤(ji2)
 ·rw [if_pos c3] at H;have c3b0:=eq_true c3;have c3b1:decide (0≤(ji2))=true:=decide_eq_true c3;clear c3;by_cases c4:(ji2:Int).toNat≤281474976710656
  ·rw [if_pos c4] at H;have c4b0:=eq_true c4;have c4b1:decide ((ji2:Int).toNat≤281474976710656)=true:=decide_eq_true c4;clear c4;obtain ⟨y194,hy194⟩:∃ y_:List Int,y_=(([]:List Int)):=⟨_,rfl⟩;(replace H:(if y194.length < 140737488355328 then (quote_Quote.l0 k a0 (y194++[34]) (a0.size:Int) 0) else (none))=some r:=by first|(rw [hy194];with_reducible exact H)|(have H2_:=(Option.bind_some _ _).symm.trans H;rw [hy194];with_reducible exact H2_)|(have H2_:=(Option.bind_some _ _).symm.trans H;with_reducible exact H2_)|with_reducible exact H|(rw [hy194];exact H)|exact H);have Ny194:=Aside0.mk hy194;clear hy194;by_cases c5:y194.length < 140737488355328
   ·rw [if_pos c5] at H;have LMc5:=Aside0.mk c5;clear c5;obtain ⟨y197,hy197⟩:∃ y_:List Int,y_=(y194++[34]):=⟨_,rfl⟩;(replace H:(quote_Quote.l0 k a0 y197 (a0.size:Int) 0)=some r:=by first|(rw [hy197];with_reducible exact H)|(have H2_:=(Option.bind_some _ _).symm.trans H;rw [hy197];with_reducible exact H2_)|(have H2_:=(Option.bind_some _ _).symm.trans H;with_reducible exact H2_)|with_reducible exact H|(rw [hy197];exact H)|exact H);have Ny197:=Aside0.mk hy197;clear hy197;have H':=Aside0.mk H;clear H;(go_enter Tryd.func58,Tryd.ntmps58);go_wp2_with (first|((with_reducible refine gate_dst (N:=10) rfl ?_);refine R_make0 (Kd.int .u8) _ 5 rfl (N:=10) rfl 44 _ _ rfl ji2 rfl rfl Tryd.underlying44 (.int .u8 0) 1 info5 rfl (by decide) (by omega) 0 (ok:=fun _=>True) (okp:=fun _=>True) rfl (fun _ hk=>hk) trivial (of_decide_eq_true (by assumption)) (Nat.le_trans (Nat.mul_le_mul_right _ (of_decide_eq_true (by assumption):ji2.toNat≤281474976710656)) (by omega)) (Below.refl _ _) (Nat.le_refl _) ?_;intro v195 w6 ho7 hb hg_ hnew_;clear hg_ hnew_;(first|rw [← Ny194.out] at ho7|(simp only [Int.reduceToNat] at ho7;rw [← Ny194.out] at ho7));have n0_:=Aside0.mk (Kd.R_lower ho7 (below_size (bw HB.out)));have n1_:=Aside0.mk (below_step (bw HB.out) hb);clear HB;have HO196:=n0_;have HB:=n1_;clear n0_ n1_;clear hb ho7)|((with_reducible refine gate_builtin (b:=.append) (xs:=#[.tmp 11,.tmp 12]) rfl ?_);at_builtin;refine Kd.R_append (Kd.int .u8) (w0:=w) w.heap.size rfl (.tmp 11) (.tmp 12) 44 5 (.int .u8 0) 1 rfl Tryd.underlying44 info5 rfl (by decide) (by omega) v195 y194 34 [.int .u8 34] (fun _=>True) (fun _=>False) rfl rfl ?aP (fun _ hk=>hk.elim) ?aF ?aO ?aB ?aS ?aL ?_;(case aP=>exact rfl);(case aB=>exact (bw HB.out));(case aF=>exact (fun _ _=>trivial));(case aO=>exact (br HO196.out));(case aS=>exact (below_size (bw HB.out)));(case aL=>have:=LMc5.out;omega);intro v198 w8 ho hb hg hat;rw [← Ny197.out] at ho;have n0_:=Aside0.mk (hb);have n1_:=Aside0.mk (ho);clear HB;clear HO196;have HB:=n0_;have HO199:=n1_;clear n0_ n1_;clear ho hb hg hat));go_loopg [3,16] k (fun kq v3 v16 w'=>∃ (x3_1:List Int) (x16_1:Int),v16 = .int .i64 x16_1∧Aside0 (quote_Quote.l0 kq a0 x3_1 (a0.size:Int) x16_1=some r)∧Aside0 (kq≤k)∧Aside0 (Kd.R (Kd.int .u8) 5 w' w.heap.size (fun _=>True) v3 x3_1)∧Aside0 (Below w.heap.size w w'))
    case atStart=>exact ⟨(y197),(0),(by first|rfl|(simp;done)|(simp [*];done)),H',⟨Nat.le_refl _⟩,⟨by (with_reducible repeat (first|apply Kd.R_alloc|apply Kd.R_drewN|apply Kd.R_drew));exact HO199.out⟩,⟨bw HB.out⟩⟩
    case round=>
     clear H';(try clear p2);(try clear c3);(try clear c3b0);(try clear c3b1);(try clear c4);(try clear c4b0);(try clear c4b1);(try clear c5);(try clear p6);obtain ⟨x3_1,x16_1,rfl,HA,HK1,HO_3,HB⟩:=hrel;cases gk with
     | zero=>exact absurd HA.out (by simp [quote_Quote.l0])
     | succ k1=>
      have H:=HA.out;clear HA;simp only [quote_Quote.l0] at H;by_cases c9:x16_1 < (a0.size:Int)
      ·rw [if_pos c9] at H;have c9b0:decide (x16_1 < (a0.size:Int))=true:=decide_eq_true c9;clear c9;by_cases c10:0≤x16_1
       ·rw [if_pos c10] at H;have c10b0:decide (0≤x16_1)=true:=decide_eq_true c10;clear c10;by_cases c11:x16_1 < (a0.size:Int)
        ·rw [if_pos c11] at H;have c11b0:decide (x16_1 < (a0.size:Int))=true:=decide_eq_true c11;clear c11;replace H:=Option.bind_eq_some_iff.mp H;obtain ⟨t203,A130,H⟩:=H;replace H:(if t203 > 0 then ((some (([92,t203]:List Int):List Int)).bind fun y204=>(if x3_1.length+y204.length < 140737488355328 then (quote_Quote.l0 k1 a0 (x3_1++y204) (a0.size:Int) (wrap64 (x16_1+1))) else (none))) else (if (bt a0 x16_1) < 32 then (if 0≤((bt a0 x16_1) / 16) then (if ((bt a0 x16_1) / 16) < 16 then (if 0≤(Go.bits .and .u8 (bt a0 x16_1) 15) then (if (Go.bits .and .u8 (bt a0 x16_1) 15) < 16 then ((some (([92,120,bt (⟨#[48,49,50,51,52,53,54,55,56,57,97,98,99,100,101,102]⟩:ByteArray) ((bt a0 x16_1) / 16),bt (⟨#[48,49,50,51,52,53,54,55,56,57,97,98,99,100,101,102]⟩:ByteArray) (Go.bits .and .u8 (bt a0 x16_1) 15)]:List Int):List Int)).bind fun y210=>(if x3_1.length+y210.length < 140737488355328 then (quote_Quote.l0 k1 a0 (x3_1++y210) (a0.size:Int) (wrap64 (x16_1+1))) else (none))) else (none)) else (none)) else (none)) else (none)) else (if (bt a0 x16_1) > 126 then (if 0≤((bt a0 x16_1) / 16) then (if ((bt a0 x16_1) / 16) < 16 then (if 0≤(Go.bits .and .u8 (bt a0 x16_1) 15) then (if (Go.bits .and .u8 (bt a0 x16_1) 15) < 16 then ((some (([92,120,bt (⟨#[48,49,50,51,52,53,54,55,56,57,97,98,99,100,101,102]⟩:ByteArray) ((bt a0 x16_1) / 16),bt (⟨#[48,49,50,51,52,53,54,55,56,57,97,98,99,100,101,102]⟩:ByteArray) (Go.bits .and .u8 (bt a0 x16_1) 15)]:List Int):List Int)).bind fun y216=>(if x3_1.length+y216.length < 140737488355328 then (quote_Quote.l0 k1 a0 (x3_1++y216) (a0.size:Int) (wrap64 (x16_1+1))) else (none))) else (none)) else (none)) else (none)) else (none)) else (if x3_1.length < 140737488355328 then (quote_Quote.l0 k1 a0 (x3_1++[bt a0 x16_1]) (a0.size:Int) (wrap64 (x16_1+1))) else (none)))))=some r:=H;have A13:=Aside0.mk A130;clear A130;by_cases c14:t203 > 0
         ·rw [if_pos c14] at H;have c14b0:decide (0 < t203)=true:=decide_eq_true c14;clear c14;obtain ⟨y204,hy204⟩:∃ y_:List Int,y_=(([92,t203]:List Int)):=⟨_,rfl⟩;(replace H:(if x3_1.length+y204.length < 140737488355328 then (quote_Quote.l0 k1 a0 (x3_1++y204) (a0.size:Int) (wrap64 (x16_1+1))) else (none))=some r:=by first|(rw [hy204];with_reducible exact H)|(have H2_:=(Option.bind_some _ _).symm.trans H;rw [hy204];with_reducible exact H2_)|(have H2_:=(Option.bind_some _ _).symm.trans H;with_reducible exact H2_)|with_reducible exact H|(rw [hy204];exact H)|exact H);have Ny204:=Aside0.mk hy204;clear hy204;by_cases c15:x3_1.length+y204.length < 140737488355328
          ·rw [if_pos c15] at H;have LMc15:=Aside0.mk c15;clear c15;obtain ⟨y207,hy207⟩:∃ y_:List Int,y_=(x3_1++y204):=⟨_,rfl⟩;(replace H:(quote_Quote.l0 k1 a0 y207 (a0.size:Int) (wrap64 (x16_1+1)))=some r:=by first|(rw [hy207];with_reducible exact H)|(have H2_:=(Option.bind_some _ _).symm.trans H;rw [hy207];with_reducible exact H2_)|(have H2_:=(Option.bind_some _ _).symm.trans H;with_reducible exact H2_)|with_reducible exact H|(rw [hy207];exact H)|exact H);have Ny207:=Aside0.mk hy207;clear hy207;have H':=Aside0.mk H;clear H;have p12:0≤(x16_1:Int):=of_decide_eq_true (by assumption);have q12:x16_1 < (a0.size:Int):=of_decide_eq_true (by assumption);have hx12:=bt_at a0 x16_1;replace p12:=eq_true p12;replace q12:=eq_true q12;go_wp2_with (first|((with_reducible refine gate_callee (f:=86) rfl ?_);refine goesL_ (some 23) rfl rfl Tryd.func86 (by kernel_rfl) rfl #[.int .u8 (bt a0 x16_1)] rfl (by (try simp only [List.map_toArray,List.map_cons,List.map_nil]);first|done|rfl|(simp only [List.length_drop,List.length_take];rfl)) ?_;(with_reducible refine (quote_letter.calls (bt a0 x16_1) t203 _ A13.out).mono ?_);rintro e w16 ⟨rfl,hb⟩;refine ⟨_,rfl,?_⟩;have n0_:=Aside0.mk (Kd.R_below (br HO_3.out) hb);have n1_:=Aside0.mk (below_step (bw HB.out) hb);clear HO_3;clear HB;have HO_3:=n0_;have HB:=n1_;clear n0_ n1_;(try clear hb);(try clear hb2);(try clear hk);(try clear hi))|((with_reducible refine gate_dst (N:=28) rfl ?_);refine Kd.R_lit (Kd.int .u8) _ 5 ?hg (N:=28) ?hd (xs:=([92,t203]:List Int)) (inner:=[.int .u8 92,.int .u8 t203]) (ok:=fun _=>True) (okp:=fun _=>True) ?hr ?hp (fun _ hk=>hk) trivial (Below.refl _ _) (Nat.le_refl _) (by simp) ?_;(case hd=>rfl);(case hg=>rfl);(case hr=>first|(go_simp;done)|(go_simp;rfl));(case hp=>exact (Reps.one (show Kd.M (Kd.int .u8) _ _ _ 92 [.int .u8 92] from rfl) (Reps.one (show Kd.M (Kd.int .u8) _ _ _ t203 [.int .u8 t203] from rfl) (Reps.none _ _))));intro v205 w17 ho18 hb hg_ hnew_;clear hg_ hnew_;(first|rw [← Ny204.out] at ho18|(simp only [Int.reduceToNat] at ho18;rw [← Ny204.out] at ho18));have n0_:=Aside0.mk (Kd.R_elder' (br HO_3.out) (Kd.R_base ho18) hb);have n1_:=Aside0.mk (Kd.R_lower (Kd.R_new' ho18 (Kd.R_lt (br HO_3.out))) (below_size (bw HB.out)));have n2_:=Aside0.mk (below_step (bw HB.out) hb);clear HO_3;clear HB;have HO_3:=n0_;have HO206:=n1_;have HB:=n2_;clear n0_ n1_ n2_;clear hb ho18;obtain ⟨Ao20,co20,eo20⟩:=Kd.R_slice HO206.out;subst eo20)|((with_reducible refine gate_builtin (b:=.append) (xs:=#[.tmp 26,.tmp 28]) rfl ?_);at_builtin;refine Kd.R_append_rows (Kd.int .u8) (w0:=w) w.heap.size rfl (.tmp 26) (.tmp 28) 44 5 (.int .u8 0) 1 rfl Tryd.underlying44 info5 rfl (by decide) (by omega) u3 x3_1 y204 _ _ _ (fun k_=>some k_ ≠ (.slice Ao20 y204.length co20:Value).ownBlock) (fun _=>False) rfl rfl ?aO ?aR (fun _ _ h=>h) (fun _ h=>h.elim) ?aF ?aB ?aS ?aL ?_;(case aR=>repeat (first|exact (Kd.R_reads' HO206.out).2.2|(with_reducible refine Kd.C_alloc ?_ _)|(with_reducible refine Kd.C_drewN ?_ _)|(with_reducible refine Kd.C_drew ?_)));(case aB=>exact (bw HB.out));(case aF=>exact (fun k_ hk=>Kd.fresh' (Kd.R_lt (br HO206.out)) k_ hk));(case aO=>exact (by (with_reducible repeat (first|apply Kd.R_alloc|apply Kd.R_drewN|apply Kd.R_drew));exact Kd.R_mono HO_3.out (fun _ hk=>hk.2)));(case aS=>exact (below_size (bw HB.out)));(case aL=>have:=LMc15.out;omega);intro v208 w19 ho hb hg hat;rw [← Ny207.out] at ho;have n0_:=Aside0.mk (Kd.R_after (ok:=(fun _=>True)) (br HO206.out) hg hat);have n1_:=Aside0.mk (hb);have n2_:=Aside0.mk (ho);clear HO206;clear HB;clear HO_3;have HO206:=n0_;have HB:=n1_;have HO209:=n2_;clear n0_ n1_ n2_;clear ho hb hg hat));go_roundg k1
           case measure=>have:=HK1.out;omega
           case rel=>exact ⟨(y207),(wrap64 (x16_1+1)),(by first|rfl|(simp;done)|(simp [*];done)),H',⟨by have:=HK1.out;omega⟩,⟨by (with_reducible repeat (first|apply Kd.R_alloc|apply Kd.R_drewN|apply Kd.R_drew));exact Kd.R_mono HO209.out (fun _ hk=>trivial)⟩,⟨bw HB.out⟩⟩
          ·rw [if_neg c15] at H;exact absurd H (by simp)
         ·rw [if_neg c14] at H;have c14b0:decide (0 < t203)=false:=decide_eq_false c14;clear c14;by_cases c21:(bt a0 x16_1) < 32
          ·rw [if_pos c21] at H;have c21b0:decide ((bt a0 x16_1) < 32)=true:=decide_eq_true c21;clear c21;obtain ⟨ji22,hji22⟩:∃ j_:Int,((bt a0 x16_1) / 16)=j_:=⟨_,rfl⟩;replace H:(if 0≤(ji22) then (if (ji22) < 16 then (if 0≤(Go.bits .and .u8 (bt a0 x16_1) 15) then (if (Go.bits .and .u8 (bt a0 x16_1) 15) < 16 then ((some (([92,120,bt (⟨#[48,49,50,51,52,53,54,55,56,57,97,98,99,100,101,102]⟩:ByteArray) (ji22),bt (⟨#[48,49,50,51,52,53,54,55,56,57,97,98,99,100,101,102]⟩:ByteArray) (Go.bits .and .u8 (bt a0 x16_1) 15)]:List Int):List Int)).bind fun y210=>(if x3_1.length+y210.length < 140737488355328 then (quote_Quote.l0 k1 a0 (x3_1++y210) (a0.size:Int) (wrap64 (x16_1+1))) else (none))) else (none)) else (none)) else (none)) else (none))=some r:=by first|(rw [hji22] at H;exact H)|(simp only [hji22] at H ⊢;exact H)
           (try rw [hji22] at A13)
           by_cases c23:0≤(ji22)
           ·rw [if_pos c23] at H;have c23b0:decide (0≤(ji22))=true:=decide_eq_true c23;clear c23;by_cases c24:(ji22) < 16
            ·rw [if_pos c24] at H;have c24b0:decide ((ji22) < 16)=true:=decide_eq_true c24;clear c24;by_cases c26:0≤(Go.bits .and .u8 (bt a0 x16_1) 15)
             ·rw [if_pos c26] at H;have c26b0:decide (0≤(Go.bits .and .u8 (bt a0 x16_1) 15))=true:=decide_eq_true c26;clear c26;by_cases c27:(Go.bits .and .u8 (bt a0 x16_1) 15) < 16
              ·rw [if_pos c27] at H;have c27b0:decide ((Go.bits .and .u8 (bt a0 x16_1) 15) < 16)=true:=decide_eq_true c27;clear c27;obtain ⟨y210,hy210⟩:∃ y_:List Int,y_=(([92,120,bt (⟨#[48,49,50,51,52,53,54,55,56,57,97,98,99,100,101,102]⟩:ByteArray) (ji22),bt (⟨#[48,49,50,51,52,53,54,55,56,57,97,98,99,100,101,102]⟩:ByteArray) (Go.bits .and .u8 (bt a0 x16_1) 15)]:List Int)):=⟨_,rfl⟩;(replace H:(if x3_1.length+y210.length < 140737488355328 then (quote_Quote.l0 k1 a0 (x3_1++y210) (a0.size:Int) (wrap64 (x16_1+1))) else (none))=some r:=by first|(rw [hy210];with_reducible exact H)|(have H2_:=(Option.bind_some _ _).symm.trans H;rw [hy210];with_reducible exact H2_)|(have H2_:=(Option.bind_some _ _).symm.trans H;with_reducible exact H2_)|with_reducible exact H|(rw [hy210];exact H)|exact H);have Ny210:=Aside0.mk hy210;clear hy210;by_cases c29:x3_1.length+y210.length < 140737488355328
               ·rw [if_pos c29] at H;have LMc29:=Aside0.mk c29;clear c29;obtain ⟨y213,hy213⟩:∃ y_:List Int,y_=(x3_1++y210):=⟨_,rfl⟩;(replace H:(quote_Quote.l0 k1 a0 y213 (a0.size:Int) (wrap64 (x16_1+1)))=some r:=by first|(rw [hy213];with_reducible exact H)|(have H2_:=(Option.bind_some _ _).symm.trans H;rw [hy213];with_reducible exact H2_)|(have H2_:=(Option.bind_some _ _).symm.trans H;with_reducible exact H2_)|with_reducible exact H|(rw [hy213];exact H)|exact H);have Ny213:=Aside0.mk hy213;clear hy213;have H':=Aside0.mk H;clear H;have p12:0≤(x16_1:Int):=of_decide_eq_true (by assumption);have q12:x16_1 < (a0.size:Int):=of_decide_eq_true (by assumption);have hx12:=bt_at a0 x16_1;replace p12:=eq_true p12;replace q12:=eq_true q12;(try go_wp2_with (first|((with_reducible refine gate_callee (f:=86) rfl ?_);refine goesL_ (some 23) rfl rfl Tryd.func86 (by kernel_rfl) rfl #[.int .u8 (bt a0 x16_1)] rfl (by (try simp only [List.map_toArray,List.map_cons,List.map_nil]);first|done|rfl|(simp only [List.length_drop,List.length_take];rfl)) ?_;(with_reducible refine (quote_letter.calls (bt a0 x16_1) t203 _ A13.out).mono ?_);rintro e w30 ⟨rfl,hb⟩;refine ⟨_,rfl,?_⟩;have n0_:=Aside0.mk (Kd.R_below (br HO_3.out) hb);have n1_:=Aside0.mk (below_step (bw HB.out) hb);clear HO_3;clear HB;have HO_3:=n0_;have HB:=n1_;clear n0_ n1_;(try clear hb);(try clear hb2);(try clear hk);(try clear hi))));have n0_:=Aside0.mk (Kd.R_drew HO_3.out);have n1_:=Aside0.mk (below_drew1 HB.out);clear HO_3;clear HB;have HO_3:=n0_;have HB:=n1_;clear n0_ n1_;have p25:0≤((ji22):Int):=of_decide_eq_true (by assumption);have q25:(ji22) < (16:Int):=of_decide_eq_true (by assumption);have hx25:=bt_at (⟨#[48,49,50,51,52,53,54,55,56,57,97,98,99,100,101,102]⟩:ByteArray) (ji22);replace p25:=eq_true p25;replace q25:=eq_true q25;have p28:0≤((Go.bits .and .u8 (bt a0 x16_1) 15):Int):=of_decide_eq_true (by assumption);have q28:(Go.bits .and .u8 (bt a0 x16_1) 15) < (16:Int):=of_decide_eq_true (by assumption);have hx28:=bt_at (⟨#[48,49,50,51,52,53,54,55,56,57,97,98,99,100,101,102]⟩:ByteArray) (Go.bits .and .u8 (bt a0 x16_1) 15);replace p28:=eq_true p28;replace q28:=eq_true q28;refine start_ (n:=10) (S:=fun w'=>True) (ds:=[]) #[false,false,false,false,false,false,false,false,false,false] (by kernel_rfl) rfl rfl trivial (fun hHeld=>?_);refine with_tabW quote_Quote.tab11 quote_Quote.bits11 (fun HT_ HW_=>?_);generalize w30.drew=w31 at HO_3 HB hHeld ⊢;refine pure_ (i:=0) (N:=some 36) (v:=?_) (a':=?_) #[true,false,false,false,false,false,false,false,false,false] rfl rfl (any_of HT_.out (by kernel_rfl)) (fun _ _ _ h=>h) (Or.inl ⟨by rfl,?_⟩) ?_ ?_;rotate_left
                ·intro w';go_simp;with_reducible rfl
                rotate_left
                ·simp only [Act.put,List.setIfInBounds_toArray,List.set_cons_zero,List.set_cons_succ,i64_w,i32_w];rfl
                refine pure_ (i:=1) (N:=some 37) (v:=?_) (a':=?_) #[true,true,false,false,false,false,false,false,false,false] rfl rfl (any_of HT_.out (by kernel_rfl)) (fun _ _ _ h=>h) (Or.inl ⟨by rfl,?_⟩) ?_ ?_;rotate_left
                ·intro w';go_simp;with_reducible rfl
                rotate_left
                ·simp only [Act.put,List.setIfInBounds_toArray,List.set_cons_zero,List.set_cons_succ,i64_w,i32_w];rfl
                refine pure_ (i:=2) (N:=some 38) (v:=?_) (a':=?_) #[true,true,true,false,false,false,false,false,false,false] rfl rfl (any_of HT_.out (by kernel_rfl)) (fun _ _ _ h=>h) (Or.inl ⟨by rfl,?_⟩) ?_ ?_;rotate_left
                ·intro w';go_simp;with_reducible rfl
                rotate_left
                ·simp only [Act.put,List.setIfInBounds_toArray,List.set_cons_zero,List.set_cons_succ,i64_w,i32_w];rfl
                refine pure_ (i:=4) (N:=some 40) (v:=?_) (a':=?_) #[true,true,true,false,true,false,false,false,false,false] rfl rfl (any_of HT_.out (by kernel_rfl)) (fun _ _ _ h=>h) (Or.inl ⟨by rfl,?_⟩) ?_ ?_;rotate_left
                ·intro w';go_simp;with_reducible rfl
                rotate_left
                ·simp only [Act.put,List.setIfInBounds_toArray,List.set_cons_zero,List.set_cons_succ,i64_w,i32_w];rfl
                refine pure_ (i:=5) (N:=some 41) (v:=?_) (a':=?_) #[true,true,true,false,true,true,false,false,false,false] rfl rfl (any_of HT_.out (by kernel_rfl)) (fun _ _ _ h=>h) (Or.inl ⟨by rfl,?_⟩) ?_ ?_;rotate_left
                ·intro w';go_simp;with_reducible rfl
                rotate_left
                ·simp only [Act.put,List.setIfInBounds_toArray,List.set_cons_zero,List.set_cons_succ,i64_w,i32_w];rfl
                refine take_ (i:=3) (N:=some 39) (v:=?_) (a':=?_) #[true,true,true,true,true,true,false,false,false,false] rfl rfl (take_ofW HT_.out HW_.out (by kernel_rfl)) (fun _ _ _ h=>h) (Or.inl ⟨by rfl,?_⟩) hHeld ?_ ?_;rotate_left
                ·intro w' _;go_simp;with_reducible rfl
                rotate_left
                ·simp only [Act.put,List.setIfInBounds_toArray,List.set_cons_zero,List.set_cons_succ,i64_w,i32_w];rfl
                refine take_ (i:=6) (N:=some 42) (v:=?_) (a':=?_) #[true,true,true,true,true,true,true,false,false,false] rfl rfl (take_ofW HT_.out HW_.out (by kernel_rfl)) (fun _ _ _ h=>h) (Or.inl ⟨by rfl,?_⟩) hHeld ?_ ?_;rotate_left
                ·intro w' _;go_simp;with_reducible rfl
                rotate_left
                ·simp only [Act.put,List.setIfInBounds_toArray,List.set_cons_zero,List.set_cons_succ,i64_w,i32_w];rfl
                refine one_ (i:=7) (N:=some 43) #[true,true,true,true,true,true,true,true,false,false] rfl rfl (one_of HT_.out (by kernel_rfl)) (by decide) (fun K hK=>?_);refine Kd.R_lit_step (Kd.int .u8) _ 5 ?hg (N:=43) ?hd (xs:=([92,120,bt (⟨#[48,49,50,51,52,53,54,55,56,57,97,98,99,100,101,102]⟩:ByteArray) (ji22),bt (⟨#[48,49,50,51,52,53,54,55,56,57,97,98,99,100,101,102]⟩:ByteArray) (Go.bits .and .u8 (bt a0 x16_1) 15)]:List Int)) (inner:=[.int .u8 92,.int .u8 120,.int .u8 (bt (⟨#[48,49,50,51,52,53,54,55,56,57,97,98,99,100,101,102]⟩:ByteArray) (ji22)),.int .u8 (bt (⟨#[48,49,50,51,52,53,54,55,56,57,97,98,99,100,101,102]⟩:ByteArray) (Go.bits .and .u8 (bt a0 x16_1) 15))]) (ok:=fun _=>True) (okp:=fun _=>True) ?hr ?hp (fun _ hk=>hk) trivial (Below.refl _ _) (Nat.le_refl _) (by simp) ?_;(case hd=>rfl);(case hg=>rfl);(case hr=>first|(go_simp;done)|(go_simp;rfl));(case hp=>exact (Reps.one (show Kd.M (Kd.int .u8) _ _ _ 92 [.int .u8 92] from rfl) (Reps.one (show Kd.M (Kd.int .u8) _ _ _ 120 [.int .u8 120] from rfl) (Reps.one (show Kd.M (Kd.int .u8) _ _ _ (bt (⟨#[48,49,50,51,52,53,54,55,56,57,97,98,99,100,101,102]⟩:ByteArray) (ji22)) [.int .u8 (bt (⟨#[48,49,50,51,52,53,54,55,56,57,97,98,99,100,101,102]⟩:ByteArray) (ji22))] from rfl) (Reps.one (show Kd.M (Kd.int .u8) _ _ _ (bt (⟨#[48,49,50,51,52,53,54,55,56,57,97,98,99,100,101,102]⟩:ByteArray) (Go.bits .and .u8 (bt a0 x16_1) 15)) [.int .u8 (bt (⟨#[48,49,50,51,52,53,54,55,56,57,97,98,99,100,101,102]⟩:ByteArray) (Go.bits .and .u8 (bt a0 x16_1) 15))] from rfl) (Reps.none _ _))))));intro v211 w32 ho33 hb hg_ hnew_;clear hg_ hnew_
                (first|rw [← Ny210.out] at ho33|(simp only [Int.reduceToNat] at ho33;rw [← Ny210.out] at ho33))
                have n0_:=Aside0.mk (Kd.R_elder' (br HO_3.out) (Kd.R_base ho33) hb);have n1_:=Aside0.mk (Kd.R_lower (Kd.R_new' ho33 (Kd.R_lt (br HO_3.out))) (below_size (bw HB.out)));have n2_:=Aside0.mk (below_step (bw HB.out) hb);clear HO_3;clear HB;have HO_3:=n0_;have HO212:=n1_;have HB:=n2_;clear n0_ n1_ n2_;clear hb ho33;obtain ⟨Ao35,co35,eo35⟩:=Kd.R_slice HO212.out
                (first|subst eo35|(injection eo35 with f1_ f2_ f3_;have f4_:=f1_.symm;have f5_:=f3_.symm;clear f1_ f2_ f3_;subst f4_;subst f5_))
                refine hK.out _ _ trivial (fun hHeld=>?_);clear hK K;refine norm_ (a':=?_) ?_ ?_;rotate_left
                ·show Act.put _ (some 43) _=_;simp only [Act.put,List.setIfInBounds_toArray,List.set_cons_zero,List.set_cons_succ,i64_w,i32_w];rfl
                refine one_ (i:=8) (N:=some 44) #[true,true,true,true,true,true,true,true,true,false] rfl rfl (one_of HT_.out (by kernel_rfl)) (by decide) (fun K hK=>?_);refine Kd.R_append_rows_step (Kd.int .u8) (w0:=w) w.heap.size (by rfl) (.tmp 36) (.tmp 43) 44 5 (.int .u8 0) 1 rfl Tryd.underlying44 info5 rfl (by decide) (by omega) u3 x3_1 y210 _ _ _ (fun k_=>some k_ ≠ (.slice Ao35 y210.length co35:Value).ownBlock) (fun _=>False) rfl rfl ?aO ?aR (fun _ _ h=>h) (fun _ h=>h.elim) ?aF ?aB ?aS ?aL ?_
                (case aR=>repeat (first|exact (Kd.R_reads' HO212.out).2.2|(with_reducible refine Kd.C_alloc ?_ _)|(with_reducible refine Kd.C_drewN ?_ _)|(with_reducible refine Kd.C_drew ?_)))
                (case aB=>exact (bw HB.out))
                (case aF=>exact (fun k_ hk=>Kd.fresh' (Kd.R_lt (br HO212.out)) k_ hk))
                (case aO=>exact (by (with_reducible repeat (first|apply Kd.R_alloc|apply Kd.R_drewN|apply Kd.R_drew));exact Kd.R_mono HO_3.out (fun _ hk=>hk.2)))
                (case aS=>exact (below_size (bw HB.out)))
                (case aL=>have:=LMc29.out;omega)
                intro v214 w34 ho hb hg hat;rw [← Ny213.out] at ho;have n0_:=Aside0.mk (Kd.R_after (ok:=(fun _=>True)) (br HO212.out) hg hat);have n1_:=Aside0.mk (hb);have n2_:=Aside0.mk (ho);clear HO212;clear HB;clear HO_3;have HO212:=n0_;have HB:=n1_;have HO215:=n2_;clear n0_ n1_ n2_;clear ho hb hg hat;refine hK.out _ _ trivial (fun hHeld=>?_);clear hK K;refine norm_ (a':=?_) ?_ ?_;rotate_left
                ·show Act.put _ (some 44) _=_;simp only [Act.put,List.setIfInBounds_toArray,List.set_cons_zero,List.set_cons_succ,i64_w,i32_w];rfl
                refine pure_ (i:=9) (N:=some 3) (v:=?_) (a':=?_) #[true,true,true,true,true,true,true,true,true,true] rfl rfl (any_of HT_.out (by kernel_rfl)) (fun _ _ _ h=>h) (Or.inl ⟨by rfl,?_⟩) ?_ ?_;rotate_left
                ·intro w';go_simp;with_reducible rfl
                rotate_left
                ·simp only [Act.put,List.setIfInBounds_toArray,List.set_cons_zero,List.set_cons_succ,i64_w,i32_w];rfl
                refine done_ (done_of HT_.out (by kernel_rfl)) ?_;(try go_wp2);go_roundg k1
                case measure=>have:=HK1.out;omega
                case rel=>exact ⟨(y213),(wrap64 (x16_1+1)),(by first|rfl|(simp;done)|(simp [*];done)),H',⟨by have:=HK1.out;omega⟩,⟨by (with_reducible repeat (first|apply Kd.R_alloc|apply Kd.R_drewN|apply Kd.R_drew));exact Kd.R_mono HO215.out (fun _ hk=>trivial)⟩,⟨bw HB.out⟩⟩
               ·rw [if_neg c29] at H;exact absurd H (by simp)
              ·rw [if_neg c27] at H;exact absurd H (by simp)
             ·rw [if_neg c26] at H;exact absurd H (by simp)
            ·rw [if_neg c24] at H;exact absurd H (by simp)
           ·rw [if_neg c23] at H;exact absurd H (by simp)
          ·rw [if_neg c21] at H;have c21b0:decide ((bt a0 x16_1) < 32)=false:=decide_eq_false c21;clear c21;by_cases c36:(bt a0 x16_1) > 126
           ·rw [if_pos c36] at H;have c36b0:decide (126 < (bt a0 x16_1))=true:=decide_eq_true c36;clear c36;obtain ⟨ji37,hji37⟩:∃ j_:Int,((bt a0 x16_1) / 16)=j_:=⟨_,rfl⟩;replace H:(if 0≤(ji37) then (if (ji37) < 16 then (if 0≤(Go.bits .and .u8 (bt a0 x16_1) 15) then (if (Go.bits .and .u8 (bt a0 x16_1) 15) < 16 then ((some (([92,120,bt (⟨#[48,49,50,51,52,53,54,55,56,57,97,98,99,100,101,102]⟩:ByteArray) (ji37),bt (⟨#[48,49,50,51,52,53,54,55,56,57,97,98,99,100,101,102]⟩:ByteArray) (Go.bits .and .u8 (bt a0 x16_1) 15)]:List Int):List Int)).bind fun y216=>(if x3_1.length+y216.length < 140737488355328 then (quote_Quote.l0 k1 a0 (x3_1++y216) (a0.size:Int) (wrap64 (x16_1+1))) else (none))) else (none)) else (none)) else (none)) else (none))=some r:=by first|(rw [hji37] at H;exact H)|(simp only [hji37] at H ⊢;exact H)
            (try rw [hji37] at A13)
            by_cases c38:0≤(ji37)
            ·rw [if_pos c38] at H;have c38b0:decide (0≤(ji37))=true:=decide_eq_true c38;clear c38;by_cases c39:(ji37) < 16
             ·rw [if_pos c39] at H;have c39b0:decide ((ji37) < 16)=true:=decide_eq_true c39;clear c39;by_cases c41:0≤(Go.bits .and .u8 (bt a0 x16_1) 15)
              ·rw [if_pos c41] at H;have c41b0:decide (0≤(Go.bits .and .u8 (bt a0 x16_1) 15))=true:=decide_eq_true c41;clear c41;by_cases c42:(Go.bits .and .u8 (bt a0 x16_1) 15) < 16
               ·rw [if_pos c42] at H;have c42b0:decide ((Go.bits .and .u8 (bt a0 x16_1) 15) < 16)=true:=decide_eq_true c42;clear c42;obtain ⟨y216,hy216⟩:∃ y_:List Int,y_=(([92,120,bt (⟨#[48,49,50,51,52,53,54,55,56,57,97,98,99,100,101,102]⟩:ByteArray) (ji37),bt (⟨#[48,49,50,51,52,53,54,55,56,57,97,98,99,100,101,102]⟩:ByteArray) (Go.bits .and .u8 (bt a0 x16_1) 15)]:List Int)):=⟨_,rfl⟩;(replace H:(if x3_1.length+y216.length < 140737488355328 then (quote_Quote.l0 k1 a0 (x3_1++y216) (a0.size:Int) (wrap64 (x16_1+1))) else (none))=some r:=by first|(rw [hy216];with_reducible exact H)|(have H2_:=(Option.bind_some _ _).symm.trans H;rw [hy216];with_reducible exact H2_)|(have H2_:=(Option.bind_some _ _).symm.trans H;with_reducible exact H2_)|with_reducible exact H|(rw [hy216];exact H)|exact H);have Ny216:=Aside0.mk hy216;clear hy216;by_cases c44:x3_1.length+y216.length < 140737488355328
                ·rw [if_pos c44] at H;have LMc44:=Aside0.mk c44;clear c44;obtain ⟨y219,hy219⟩:∃ y_:List Int,y_=(x3_1++y216):=⟨_,rfl⟩;(replace H:(quote_Quote.l0 k1 a0 y219 (a0.size:Int) (wrap64 (x16_1+1)))=some r:=by first|(rw [hy219];with_reducible exact H)|(have H2_:=(Option.bind_some _ _).symm.trans H;rw [hy219];with_reducible exact H2_)|(have H2_:=(Option.bind_some _ _).symm.trans H;with_reducible exact H2_)|with_reducible exact H|(rw [hy219];exact H)|exact H);have Ny219:=Aside0.mk hy219;clear hy219;have H':=Aside0.mk H;clear H;have p12:0≤(x16_1:Int):=of_decide_eq_true (by assumption);have q12:x16_1 < (a0.size:Int):=of_decide_eq_true (by assumption);have hx12:=bt_at a0 x16_1;replace p12:=eq_true p12;replace q12:=eq_true q12;(try go_wp2_with (first|((with_reducible refine gate_callee (f:=86) rfl ?_);refine goesL_ (some 23) rfl rfl Tryd.func86 (by kernel_rfl) rfl #[.int .u8 (bt a0 x16_1)] rfl (by (try simp only [List.map_toArray,List.map_cons,List.map_nil]);first|done|rfl|(simp only [List.length_drop,List.length_take];rfl)) ?_;(with_reducible refine (quote_letter.calls (bt a0 x16_1) t203 _ A13.out).mono ?_);rintro e w45 ⟨rfl,hb⟩;refine ⟨_,rfl,?_⟩;have n0_:=Aside0.mk (Kd.R_below (br HO_3.out) hb);have n1_:=Aside0.mk (below_step (bw HB.out) hb);clear HO_3;clear HB;have HO_3:=n0_;have HB:=n1_;clear n0_ n1_;(try clear hb);(try clear hb2);(try clear hk);(try clear hi))));have n0_:=Aside0.mk (Kd.R_drew HO_3.out);have n1_:=Aside0.mk (below_drew1 HB.out);clear HO_3;clear HB;have HO_3:=n0_;have HB:=n1_;clear n0_ n1_;have p40:0≤((ji37):Int):=of_decide_eq_true (by assumption);have q40:(ji37) < (16:Int):=of_decide_eq_true (by assumption);have hx40:=bt_at (⟨#[48,49,50,51,52,53,54,55,56,57,97,98,99,100,101,102]⟩:ByteArray) (ji37);replace p40:=eq_true p40;replace q40:=eq_true q40;have p43:0≤((Go.bits .and .u8 (bt a0 x16_1) 15):Int):=of_decide_eq_true (by assumption);have q43:(Go.bits .and .u8 (bt a0 x16_1) 15) < (16:Int):=of_decide_eq_true (by assumption);have hx43:=bt_at (⟨#[48,49,50,51,52,53,54,55,56,57,97,98,99,100,101,102]⟩:ByteArray) (Go.bits .and .u8 (bt a0 x16_1) 15);replace p43:=eq_true p43;replace q43:=eq_true q43;refine start_ (n:=10) (S:=fun w'=>True) (ds:=[]) #[false,false,false,false,false,false,false,false,false,false] (by kernel_rfl) rfl rfl trivial (fun hHeld=>?_);refine with_tabW quote_Quote.tab11 quote_Quote.bits11 (fun HT_ HW_=>?_);generalize w45.drew=w46 at HO_3 HB hHeld ⊢;refine pure_ (i:=0) (N:=some 36) (v:=?_) (a':=?_) #[true,false,false,false,false,false,false,false,false,false] rfl rfl (any_of HT_.out (by kernel_rfl)) (fun _ _ _ h=>h) (Or.inl ⟨by rfl,?_⟩) ?_ ?_;rotate_left
                 ·intro w';go_simp;with_reducible rfl
                 rotate_left
                 ·simp only [Act.put,List.setIfInBounds_toArray,List.set_cons_zero,List.set_cons_succ,i64_w,i32_w];rfl
                 refine pure_ (i:=1) (N:=some 37) (v:=?_) (a':=?_) #[true,true,false,false,false,false,false,false,false,false] rfl rfl (any_of HT_.out (by kernel_rfl)) (fun _ _ _ h=>h) (Or.inl ⟨by rfl,?_⟩) ?_ ?_;rotate_left
                 ·intro w';go_simp;with_reducible rfl
                 rotate_left
                 ·simp only [Act.put,List.setIfInBounds_toArray,List.set_cons_zero,List.set_cons_succ,i64_w,i32_w];rfl
                 refine pure_ (i:=2) (N:=some 38) (v:=?_) (a':=?_) #[true,true,true,false,false,false,false,false,false,false] rfl rfl (any_of HT_.out (by kernel_rfl)) (fun _ _ _ h=>h) (Or.inl ⟨by rfl,?_⟩) ?_ ?_;rotate_left
                 ·intro w';go_simp;with_reducible rfl
                 rotate_left
                 ·simp only [Act.put,List.setIfInBounds_toArray,List.set_cons_zero,List.set_cons_succ,i64_w,i32_w];rfl
                 refine pure_ (i:=4) (N:=some 40) (v:=?_) (a':=?_) #[true,true,true,false,true,false,false,false,false,false] rfl rfl (any_of HT_.out (by kernel_rfl)) (fun _ _ _ h=>h) (Or.inl ⟨by rfl,?_⟩) ?_ ?_;rotate_left
                 ·intro w';go_simp;with_reducible rfl
                 rotate_left
                 ·simp only [Act.put,List.setIfInBounds_toArray,List.set_cons_zero,List.set_cons_succ,i64_w,i32_w];rfl
                 refine pure_ (i:=5) (N:=some 41) (v:=?_) (a':=?_) #[true,true,true,false,true,true,false,false,false,false] rfl rfl (any_of HT_.out (by kernel_rfl)) (fun _ _ _ h=>h) (Or.inl ⟨by rfl,?_⟩) ?_ ?_;rotate_left
                 ·intro w';go_simp;with_reducible rfl
                 rotate_left
                 ·simp only [Act.put,List.setIfInBounds_toArray,List.set_cons_zero,List.set_cons_succ,i64_w,i32_w];rfl
                 refine take_ (i:=3) (N:=some 39) (v:=?_) (a':=?_) #[true,true,true,true,true,true,false,false,false,false] rfl rfl (take_ofW HT_.out HW_.out (by kernel_rfl)) (fun _ _ _ h=>h) (Or.inl ⟨by rfl,?_⟩) hHeld ?_ ?_;rotate_left
                 ·intro w' _;go_simp;with_reducible rfl
                 rotate_left
                 ·simp only [Act.put,List.setIfInBounds_toArray,List.set_cons_zero,List.set_cons_succ,i64_w,i32_w];rfl
                 refine take_ (i:=6) (N:=some 42) (v:=?_) (a':=?_) #[true,true,true,true,true,true,true,false,false,false] rfl rfl (take_ofW HT_.out HW_.out (by kernel_rfl)) (fun _ _ _ h=>h) (Or.inl ⟨by rfl,?_⟩) hHeld ?_ ?_;rotate_left
                 ·intro w' _;go_simp;with_reducible rfl
                 rotate_left
                 ·simp only [Act.put,List.setIfInBounds_toArray,List.set_cons_zero,List.set_cons_succ,i64_w,i32_w];rfl
                 refine one_ (i:=7) (N:=some 43) #[true,true,true,true,true,true,true,true,false,false] rfl rfl (one_of HT_.out (by kernel_rfl)) (by decide) (fun K hK=>?_);refine Kd.R_lit_step (Kd.int .u8) _ 5 ?hg (N:=43) ?hd (xs:=([92,120,bt (⟨#[48,49,50,51,52,53,54,55,56,57,97,98,99,100,101,102]⟩:ByteArray) (ji37),bt (⟨#[48,49,50,51,52,53,54,55,56,57,97,98,99,100,101,102]⟩:ByteArray) (Go.bits .and .u8 (bt a0 x16_1) 15)]:List Int)) (inner:=[.int .u8 92,.int .u8 120,.int .u8 (bt (⟨#[48,49,50,51,52,53,54,55,56,57,97,98,99,100,101,102]⟩:ByteArray) (ji37)),.int .u8 (bt (⟨#[48,49,50,51,52,53,54,55,56,57,97,98,99,100,101,102]⟩:ByteArray) (Go.bits .and .u8 (bt a0 x16_1) 15))]) (ok:=fun _=>True) (okp:=fun _=>True) ?hr ?hp (fun _ hk=>hk) trivial (Below.refl _ _) (Nat.le_refl _) (by simp) ?_;(case hd=>rfl);(case hg=>rfl);(case hr=>first|(go_simp;done)|(go_simp;rfl));(case hp=>exact (Reps.one (show Kd.M (Kd.int .u8) _ _ _ 92 [.int .u8 92] from rfl) (Reps.one (show Kd.M (Kd.int .u8) _ _ _ 120 [.int .u8 120] from rfl) (Reps.one (show Kd.M (Kd.int .u8) _ _ _ (bt (⟨#[48,49,50,51,52,53,54,55,56,57,97,98,99,100,101,102]⟩:ByteArray) (ji37)) [.int .u8 (bt (⟨#[48,49,50,51,52,53,54,55,56,57,97,98,99,100,101,102]⟩:ByteArray) (ji37))] from rfl) (Reps.one (show Kd.M (Kd.int .u8) _ _ _ (bt (⟨#[48,49,50,51,52,53,54,55,56,57,97,98,99,100,101,102]⟩:ByteArray) (Go.bits .and .u8 (bt a0 x16_1) 15)) [.int .u8 (bt (⟨#[48,49,50,51,52,53,54,55,56,57,97,98,99,100,101,102]⟩:ByteArray) (Go.bits .and .u8 (bt a0 x16_1) 15))] from rfl) (Reps.none _ _))))));intro v217 w47 ho48 hb hg_ hnew_;clear hg_ hnew_
                 (first|rw [← Ny216.out] at ho48|(simp only [Int.reduceToNat] at ho48;rw [← Ny216.out] at ho48))
                 have n0_:=Aside0.mk (Kd.R_elder' (br HO_3.out) (Kd.R_base ho48) hb);have n1_:=Aside0.mk (Kd.R_lower (Kd.R_new' ho48 (Kd.R_lt (br HO_3.out))) (below_size (bw HB.out)));have n2_:=Aside0.mk (below_step (bw HB.out) hb);clear HO_3;clear HB;have HO_3:=n0_;have HO218:=n1_;have HB:=n2_;clear n0_ n1_ n2_;clear hb ho48;obtain ⟨Ao50,co50,eo50⟩:=Kd.R_slice HO218.out
                 (first|subst eo50|(injection eo50 with f1_ f2_ f3_;have f4_:=f1_.symm;have f5_:=f3_.symm;clear f1_ f2_ f3_;subst f4_;subst f5_))
                 refine hK.out _ _ trivial (fun hHeld=>?_);clear hK K;refine norm_ (a':=?_) ?_ ?_;rotate_left
                 ·show Act.put _ (some 43) _=_;simp only [Act.put,List.setIfInBounds_toArray,List.set_cons_zero,List.set_cons_succ,i64_w,i32_w];rfl
                 refine one_ (i:=8) (N:=some 44) #[true,true,true,true,true,true,true,true,true,false] rfl rfl (one_of HT_.out (by kernel_rfl)) (by decide) (fun K hK=>?_);refine Kd.R_append_rows_step (Kd.int .u8) (w0:=w) w.heap.size (by rfl) (.tmp 36) (.tmp 43) 44 5 (.int .u8 0) 1 rfl Tryd.underlying44 info5 rfl (by decide) (by omega) u3 x3_1 y216 _ _ _ (fun k_=>some k_ ≠ (.slice Ao50 y216.length co50:Value).ownBlock) (fun _=>False) rfl rfl ?aO ?aR (fun _ _ h=>h) (fun _ h=>h.elim) ?aF ?aB ?aS ?aL ?_
                 (case aR=>repeat (first|exact (Kd.R_reads' HO218.out).2.2|(with_reducible refine Kd.C_alloc ?_ _)|(with_reducible refine Kd.C_drewN ?_ _)|(with_reducible refine Kd.C_drew ?_)))
                 (case aB=>exact (bw HB.out))
                 (case aF=>exact (fun k_ hk=>Kd.fresh' (Kd.R_lt (br HO218.out)) k_ hk))
                 (case aO=>exact (by (with_reducible repeat (first|apply Kd.R_alloc|apply Kd.R_drewN|apply Kd.R_drew));exact Kd.R_mono HO_3.out (fun _ hk=>hk.2)))
                 (case aS=>exact (below_size (bw HB.out)))
                 (case aL=>have:=LMc44.out;omega)
                 intro v220 w49 ho hb hg hat;rw [← Ny219.out] at ho;have n0_:=Aside0.mk (Kd.R_after (ok:=(fun _=>True)) (br HO218.out) hg hat);have n1_:=Aside0.mk (hb);have n2_:=Aside0.mk (ho);clear HO218;clear HB;clear HO_3;have HO218:=n0_;have HB:=n1_;have HO221:=n2_;clear n0_ n1_ n2_;clear ho hb hg hat;refine hK.out _ _ trivial (fun hHeld=>?_);clear hK K;refine norm_ (a':=?_) ?_ ?_;rotate_left
                 ·show Act.put _ (some 44) _=_;simp only [Act.put,List.setIfInBounds_toArray,List.set_cons_zero,List.set_cons_succ,i64_w,i32_w];rfl
                 refine pure_ (i:=9) (N:=some 3) (v:=?_) (a':=?_) #[true,true,true,true,true,true,true,true,true,true] rfl rfl (any_of HT_.out (by kernel_rfl)) (fun _ _ _ h=>h) (Or.inl ⟨by rfl,?_⟩) ?_ ?_;rotate_left
                 ·intro w';go_simp;with_reducible rfl
                 rotate_left
                 ·simp only [Act.put,List.setIfInBounds_toArray,List.set_cons_zero,List.set_cons_succ,i64_w,i32_w];rfl
                 refine done_ (done_of HT_.out (by kernel_rfl)) ?_;(try go_wp2);go_roundg k1
                 case measure=>have:=HK1.out;omega
                 case rel=>exact ⟨(y219),(wrap64 (x16_1+1)),(by first|rfl|(simp;done)|(simp [*];done)),H',⟨by have:=HK1.out;omega⟩,⟨by (with_reducible repeat (first|apply Kd.R_alloc|apply Kd.R_drewN|apply Kd.R_drew));exact Kd.R_mono HO221.out (fun _ hk=>trivial)⟩,⟨bw HB.out⟩⟩
                ·rw [if_neg c44] at H;exact absurd H (by simp)
               ·rw [if_neg c42] at H;exact absurd H (by simp)
              ·rw [if_neg c41] at H;exact absurd H (by simp)
             ·rw [if_neg c39] at H;exact absurd H (by simp)
            ·rw [if_neg c38] at H;exact absurd H (by simp)
           ·rw [if_neg c36] at H;have c36b0:decide (126 < (bt a0 x16_1))=false:=decide_eq_false c36;clear c36;by_cases c51:x3_1.length < 140737488355328
            ·rw [if_pos c51] at H;have LMc51:=Aside0.mk c51;clear c51;obtain ⟨y222,hy222⟩:∃ y_:List Int,y_=(x3_1++[bt a0 x16_1]):=⟨_,rfl⟩;(replace H:(quote_Quote.l0 k1 a0 y222 (a0.size:Int) (wrap64 (x16_1+1)))=some r:=by first|(rw [hy222];with_reducible exact H)|(have H2_:=(Option.bind_some _ _).symm.trans H;rw [hy222];with_reducible exact H2_)|(have H2_:=(Option.bind_some _ _).symm.trans H;with_reducible exact H2_)|with_reducible exact H|(rw [hy222];exact H)|exact H);have Ny222:=Aside0.mk hy222;clear hy222;have H':=Aside0.mk H;clear H;have p12:0≤(x16_1:Int):=of_decide_eq_true (by assumption);have q12:x16_1 < (a0.size:Int):=of_decide_eq_true (by assumption);have hx12:=bt_at a0 x16_1;replace p12:=eq_true p12;replace q12:=eq_true q12;go_wp2_with (first|((with_reducible refine gate_callee (f:=86) rfl ?_);refine goesL_ (some 23) rfl rfl Tryd.func86 (by kernel_rfl) rfl #[.int .u8 (bt a0 x16_1)] rfl (by (try simp only [List.map_toArray,List.map_cons,List.map_nil]);first|done|rfl|(simp only [List.length_drop,List.length_take];rfl)) ?_;(with_reducible refine (quote_letter.calls (bt a0 x16_1) t203 _ A13.out).mono ?_);rintro e w52 ⟨rfl,hb⟩;refine ⟨_,rfl,?_⟩;have n0_:=Aside0.mk (Kd.R_below (br HO_3.out) hb);have n1_:=Aside0.mk (below_step (bw HB.out) hb);clear HO_3;clear HB;have HO_3:=n0_;have HB:=n1_;clear n0_ n1_;(try clear hb);(try clear hb2);(try clear hk);(try clear hi))|((with_reducible refine gate_builtin (b:=.append) (xs:=#[.tmp 45,.tmp 47]) rfl ?_);at_builtin;refine Kd.R_append (Kd.int .u8) (w0:=w) w.heap.size rfl (.tmp 45) (.tmp 47) 44 5 (.int .u8 0) 1 rfl Tryd.underlying44 info5 rfl (by decide) (by omega) u3 x3_1 (bt a0 x16_1) [.int .u8 (bt a0 x16_1)] (fun _=>True) (fun _=>False) rfl rfl ?aP (fun _ hk=>hk.elim) ?aF ?aO ?aB ?aS ?aL ?_;(case aP=>exact rfl);(case aB=>exact (bw HB.out));(case aF=>exact (fun _ _=>trivial));(case aO=>exact (br HO_3.out));(case aS=>exact (below_size (bw HB.out)));(case aL=>have:=LMc51.out;omega);intro v223 w53 ho hb hg hat;rw [← Ny222.out] at ho;have n0_:=Aside0.mk (hb);have n1_:=Aside0.mk (ho);clear HB;clear HO_3;have HB:=n0_;have HO224:=n1_;clear n0_ n1_;clear ho hb hg hat));go_roundg k1
             case measure=>have:=HK1.out;omega
             case rel=>exact ⟨(y222),(wrap64 (x16_1+1)),(by first|rfl|(simp;done)|(simp [*];done)),H',⟨by have:=HK1.out;omega⟩,⟨by (with_reducible repeat (first|apply Kd.R_alloc|apply Kd.R_drewN|apply Kd.R_drew));exact HO224.out⟩,⟨bw HB.out⟩⟩
            ·rw [if_neg c51] at H;exact absurd H (by simp)
        ·rw [if_neg c11] at H;exact absurd H (by simp)
       ·rw [if_neg c10] at H;exact absurd H (by simp)
      ·rw [if_neg c9] at H;have c9b0:decide (x16_1 < (a0.size:Int))=false:=decide_eq_false c9;clear c9;by_cases c54:x3_1.length < 140737488355328
       ·rw [if_pos c54] at H;have LMc54:=Aside0.mk c54;clear c54;obtain ⟨y200,hy200⟩:∃ y_:List Int,y_=(x3_1++[34]):=⟨_,rfl⟩;(replace H:(some (strOfNums y200))=some r:=by first|(rw [hy200];with_reducible exact H)|(have H2_:=(Option.bind_some _ _).symm.trans H;rw [hy200];with_reducible exact H2_)|(have H2_:=(Option.bind_some _ _).symm.trans H;with_reducible exact H2_)|with_reducible exact H|(rw [hy200];exact H)|exact H);have Ny200:=Aside0.mk hy200;clear hy200;obtain rfl:=Option.some.inj H;go_wp2_with (first|((with_reducible refine gate_builtin (b:=.append) (xs:=#[.tmp 50,.tmp 51]) rfl ?_);at_builtin;refine Kd.R_append (Kd.int .u8) (w0:=w) w.heap.size rfl (.tmp 50) (.tmp 51) 44 5 (.int .u8 0) 1 rfl Tryd.underlying44 info5 rfl (by decide) (by omega) u3 x3_1 34 [.int .u8 34] (fun _=>True) (fun _=>False) rfl rfl ?aP (fun _ hk=>hk.elim) ?aF ?aO ?aB ?aS ?aL ?_;(case aP=>exact rfl);(case aB=>exact (bw HB.out));(case aF=>exact (fun _ _=>trivial));(case aO=>exact (br HO_3.out));(case aS=>exact (below_size (bw HB.out)));(case aL=>have:=LMc54.out;omega);intro v201 w55 ho hb hg hat;rw [← Ny200.out] at ho;have n0_:=Aside0.mk (hb);have n1_:=Aside0.mk (ho);clear HB;clear HO_3;have HB:=n0_;have HO202:=n1_;clear n0_ n1_;clear ho hb hg hat;have hcv56:=own_string (P:=Tryd.prog) Tryd.underlying44 Tryd.underlying5 Tryd.underlying9 (Kd.own_of_R HO202.out)));go_ret;exact ⟨by first|rfl|(simp [errW_none,errW_some] <;> rfl)|(simp only [← hji2];first|rfl|(simp [errW_none,errW_some] <;> rfl))|(simp [*,errW_none,errW_some] <;> rfl),bw HB.out⟩
       ·rw [if_neg c54] at H;exact absurd H (by simp)
   ·rw [if_neg c5] at H;exact absurd H (by simp)
  ·rw [if_neg c4] at H;exact absurd H (by simp)
 ·rw [if_neg c3] at H;exact absurd H (by simp)
end Go.Proofs.YtkbjblhompkdkaaDoor.PA
namespace Go.Proofs.YtkbjblhompkdkaaDoor.PA
open Go.RowKit Go.Proofs.YtkbjblhompkdkaaDoorW.PrintWords Go.Proofs.YtkbjblhompkdkaaDoorW.PrintLast
set_option linter.unusedVariables false
set_option linter.unusedSimpArgs false
mutual
def lex_Print.l0:Nat→ByteArray→List (S24)→Int→Int→Option (ByteArray)
 | 0,_,_,_,_=>none
 | k+1,x3,x6,x7,x8=>if x8 < x7 then (if 0≤x8 then (if x8 < (x6.length:Int) then (if x8 > 0 then (if x3.size+1≤9223372036854775807 then (lex_Print.j1 k (x3++(⟨#[32]⟩:ByteArray)) x6 x7 x8 ((rd_T24 x6 x8).f0) ((rd_T24 x6 x8).f1) ((rd_T24 x6 x8).f2) ((rd_T24 x6 x8).f3) ((rd_T24 x6 x8).f4)) else (none)) else (lex_Print.j1 k x3 x6 x7 x8 ((rd_T24 x6 x8).f0) ((rd_T24 x6 x8).f1) ((rd_T24 x6 x8).f2) ((rd_T24 x6 x8).f3) ((rd_T24 x6 x8).f4))) else (none)) else (none)) else (some x3)
def lex_Print.j1:Nat→ByteArray→List (S24)→Int→Int→Int→Int→Int→Int→ByteArray→Option (ByteArray)
 | 0,_,_,_,_,_,_,_,_,_=>none
 | k+1,x3,x6,x7,x8,x227000,x227001,x227002,x227003,x227004=>if x227000=1 then (lex_Print.j2 k x3 x6 x7 x8 x227000 (x227000 == 1) x227000 x227001 x227002 x227003 x227004) else (lex_Print.j2 k x3 x6 x7 x8 x227000 (x227000 == 2) x227000 x227001 x227002 x227003 x227004)
def lex_Print.j2:Nat→ByteArray→List (S24)→Int→Int→Int→Bool→Int→Int→Int→Int→ByteArray→Option (ByteArray)
 | 0,_,_,_,_,_,_,_,_,_,_,_=>none
 | k+1,x3,x6,x7,x8,x18,x19,x227000,x227001,x227002,x227003,x227004=>if x19=true then (if x3.size+x227004.size≤9223372036854775807 then (lex_Print.l0 k (x3++x227004) x6 x7 (wrap64 (x8+1))) else (none)) else (if x18=3 then ((num_Digits.f x227003).bind fun t227=>(if x3.size+t227.size≤9223372036854775807 then (lex_Print.l0 k (x3++t227) x6 x7 (wrap64 (x8+1))) else (none))) else (if x18=4 then ((quote_Quote.f k x227004).bind fun t228=>(if x3.size+t228.size≤9223372036854775807 then (lex_Print.l0 k (x3++t228) x6 x7 (wrap64 (x8+1))) else (none))) else (lex_Print.l0 k x3 x6 x7 (wrap64 (x8+1)))))
end
def lex_Print.f (k:Nat) (l0:List (S24)):Option (ByteArray):=lex_Print.l0 k (⟨#[]⟩:ByteArray) l0 (l0.length:Int) 0
set_option maxHeartbeats 8000000 in
set_option maxRecDepth 100000 in
theorem lex_Print.calls (k:Nat) (A0:Option Addr) (c0:Nat) (l0:List (S24)) (r:ByteArray) (w:World) (hr0:Kd.C k24 w A0 l0.length l0) (hc0:l0.length≤c0) (h:lex_Print.f k l0=some r) :
  Calls Tryd.prog 24 #[.slice A0 l0.length c0] w fun e w'=>e = .returned (.string r)∧Below w.heap.size w w':=by
 have hu24:=Tryd.underlying24;have HR0:=Aside0.mk hr0;have HC0:=Aside0.mk hc0;clear hr0 hc0;have HB:=Aside0.mk (Below.refl w.heap.size w);have H:(lex_Print.l0 k (⟨#[]⟩:ByteArray) l0 (l0.length:Int) 0)=some r:=h;clear h;have H':=Aside0.mk H;clear H;(go_enter Tryd.func24,Tryd.ntmps24);go_wp2;go_loopg [3,8] k (fun kq v3 v8 w'=>∃ (x3_1:ByteArray) (x8_1:Int),v3 = .string x3_1∧v8 = .int .i64 x8_1∧Aside0 (lex_Print.l0 kq x3_1 l0 (l0.length:Int) x8_1=some r)∧Aside0 (kq≤k)∧Aside0 (Below w.heap.size w w'))
 case atStart=>exact ⟨((⟨#[]⟩:ByteArray)),(0),(by first|rfl|(simp;done)|(simp [*];done)),(by first|rfl|(simp;done)|(simp [*];done)),H',⟨Nat.le_refl _⟩,⟨bw HB.out⟩⟩
 case round=>
  clear H';obtain ⟨x3_1,x8_1,rfl,rfl,HA,HK1,HB⟩:=hrel;cases gk with
  | zero=>exact absurd HA.out (by simp [lex_Print.l0])
  | succ k1=>
   have H:=HA.out;clear HA;simp only [lex_Print.l0] at H;by_cases c2:x8_1 < (l0.length:Int)
   ·rw [if_pos c2] at H;have c2b0:decide (x8_1 < (l0.length:Int))=true:=decide_eq_true c2;clear c2;by_cases c3:0≤x8_1
    ·rw [if_pos c3] at H;have c3b0:decide (0≤x8_1)=true:=decide_eq_true c3;clear c3;by_cases c4:x8_1 < (l0.length:Int)
     ·rw [if_pos c4] at H;have c4b0:decide (x8_1 < (l0.length:Int))=true:=decide_eq_true c4;clear c4;have HC5:=Aside0.mk H;clear H;have p225:0≤(x8_1:Int):=of_decide_eq_true (by assumption);have q225:x8_1 < (l0.length:Int):=of_decide_eq_true (by assumption);obtain ⟨ad225,e225,hx225_0,hx225_1,hx225_2,hx225_3,hx225_4⟩:=at_T24 HR0.out x8_1 p225 q225;cases e225;replace hx225_0:=(HB.out.cell (World.block_lt_of_cell? w _ hx225_0)).trans hx225_0;replace hx225_1:=(HB.out.cell (World.block_lt_of_cell? w _ hx225_1)).trans hx225_1;replace hx225_2:=(HB.out.cell (World.block_lt_of_cell? w _ hx225_2)).trans hx225_2;replace hx225_3:=(HB.out.cell (World.block_lt_of_cell? w _ hx225_3)).trans hx225_3;replace hx225_4:=(HB.out.cell (World.block_lt_of_cell? w _ hx225_4)).trans hx225_4;replace p225:=eq_true p225;replace q225:=eq_true q225;go_upto_if 14 with (first|((with_reducible refine gate_dst (N:=5) rfl ?_);refine box_event ?hg (N:=5) ?hd (cs:=#[.int .i64 0,.int .i64 0,.int .i64 0,.int .i64 0,.string (⟨#[]⟩:ByteArray)]) (t:=24) ?hr ?_;(case hd=>rfl);(case hg=>rfl);(case hr=>first|(go_simp;done)|(go_simp;rfl));intro gb226 hg w6 hbox hb;have n0_:=Aside0.mk (below_step (bw HB.out) hb);have n1_:=Aside0.mk (hbox);have n2_:=Aside0.mk ((by rw [hg];exact (below_size (bw HB.out)):w.heap.size≤gb226));have n3_:=Aside0.mk ((by rw [hg];exact (below_size (bw HB.out)):w.heap.size≤gb226));clear HB;have HB:=n0_;have BK226:=n1_;have GW226:=n2_;have GE226:=n3_;clear n0_ n1_ n2_ n3_;clear hb hbox hg;obtain ⟨hcz7_0,hcz7_1,hcz7_2,hcz7_3,hcz7_4⟩:=cells5 BK226.out;obtain ⟨hfz7_0,hfz7_1,hfz7_2,hfz7_3,hfz7_4⟩:=frozen5 BK226.out))
      (try simp only [Act.put,List.setIfInBounds_toArray,List.set_cons_zero,List.set_cons_succ])
      go_cut [3] (fun v3 wc=>∃ (kq:Nat) (x3_4:ByteArray),v3 = .string x3_4∧Aside0 (lex_Print.j1 kq x3_4 l0 (l0.length:Int) x8_1 ((rd_T24 l0 x8_1).f0) ((rd_T24 l0 x8_1).f1) ((rd_T24 l0 x8_1).f2) ((rd_T24 l0 x8_1).f3) ((rd_T24 l0 x8_1).f4)=some r)∧Aside0 (kq≤k1)∧Aside0 (wc.heap[gb226]? = some (.cells #[.int .i64 ((rd_T24 l0 x8_1).f0),.int .i64 ((rd_T24 l0 x8_1).f1),.int .i64 ((rd_T24 l0 x8_1).f2),.int .i64 ((rd_T24 l0 x8_1).f3),.string ((rd_T24 l0 x8_1).f4)] 24 (0,0)))∧Aside0 (Below w.heap.size w wc))
      case first=>
       have H:=HC5.out;clear HC5;by_cases c8:x8_1 > 0
       ·rw [if_pos c8] at H;have c8b0:decide (0 < x8_1)=true:=decide_eq_true c8;clear c8
        (first|rw [c8b0]|(simp only [i64_w,i32_w];rw [c8b0])|skip)
        by_cases c9:x3_1.size+1≤9223372036854775807
        ·rw [if_pos c9] at H;have c9b0:=eq_true c9;have c9b1:decide (x3_1.size+1≤9223372036854775807)=true:=decide_eq_true c9;(try have c9b2:(9223372036854775807 < x3_1.size+1)=False:=eq_false (Nat.not_lt.2 c9));have H':=Aside0.mk H;clear H;go_wp2;go_meet
         case rel=>exact ⟨_,(x3_1++(⟨#[32]⟩:ByteArray)),(by first|rfl|(simp;done)|(simp [*];done)),H',⟨by have:=HK1.out;first|omega|exact Nat.le_refl _⟩,⟨by (with_reducible repeat (first|refine blk_drewN ?_ _|refine blk_drew ?_|refine blk_alloc ?_ _));refine blk_put (cs:=#[.int .i64 ((rd_T24 l0 x8_1).f0),.int .i64 ((rd_T24 l0 x8_1).f1),.int .i64 ((rd_T24 l0 x8_1).f2),.int .i64 ((rd_T24 l0 x8_1).f3),.string (⟨#[]⟩:ByteArray)]) ?_ 4 _ rfl;(with_reducible repeat (first|refine blk_drewN ?_ _|refine blk_drew ?_|refine blk_alloc ?_ _));refine blk_put (cs:=#[.int .i64 ((rd_T24 l0 x8_1).f0),.int .i64 ((rd_T24 l0 x8_1).f1),.int .i64 ((rd_T24 l0 x8_1).f2),.int .i64 0,.string (⟨#[]⟩:ByteArray)]) ?_ 3 _ rfl;(with_reducible repeat (first|refine blk_drewN ?_ _|refine blk_drew ?_|refine blk_alloc ?_ _));refine blk_put (cs:=#[.int .i64 ((rd_T24 l0 x8_1).f0),.int .i64 ((rd_T24 l0 x8_1).f1),.int .i64 0,.int .i64 0,.string (⟨#[]⟩:ByteArray)]) ?_ 2 _ rfl;(with_reducible repeat (first|refine blk_drewN ?_ _|refine blk_drew ?_|refine blk_alloc ?_ _));refine blk_put (cs:=#[.int .i64 ((rd_T24 l0 x8_1).f0),.int .i64 0,.int .i64 0,.int .i64 0,.string (⟨#[]⟩:ByteArray)]) ?_ 1 _ rfl;(with_reducible repeat (first|refine blk_drewN ?_ _|refine blk_drew ?_|refine blk_alloc ?_ _));refine blk_put (cs:=#[.int .i64 0,.int .i64 0,.int .i64 0,.int .i64 0,.string (⟨#[]⟩:ByteArray)]) ?_ 0 _ rfl;(with_reducible repeat (first|refine blk_drewN ?_ _|refine blk_drew ?_|refine blk_alloc ?_ _));exact BK226.out⟩,⟨by repeat (first|(with_reducible first|exact HB.out|apply below_alloc|apply pw_below_drewN|apply below_drew1|refine below_set ?_ GE226.out)|exact HB.out)⟩⟩
        ·rw [if_neg c9] at H;exact absurd H (by simp)
       ·rw [if_neg c8] at H;have c8b0:decide (0 < x8_1)=false:=decide_eq_false c8;clear c8
        (first|rw [c8b0]|(simp only [i64_w,i32_w];rw [c8b0])|skip)
        have H':=Aside0.mk H;clear H;go_wp2;go_meet
        case rel=>exact ⟨_,(x3_1),(by first|rfl|(simp;done)|(simp [*];done)),H',⟨by have:=HK1.out;first|omega|exact Nat.le_refl _⟩,⟨by (with_reducible repeat (first|refine blk_drewN ?_ _|refine blk_drew ?_|refine blk_alloc ?_ _));refine blk_put (cs:=#[.int .i64 ((rd_T24 l0 x8_1).f0),.int .i64 ((rd_T24 l0 x8_1).f1),.int .i64 ((rd_T24 l0 x8_1).f2),.int .i64 ((rd_T24 l0 x8_1).f3),.string (⟨#[]⟩:ByteArray)]) ?_ 4 _ rfl;(with_reducible repeat (first|refine blk_drewN ?_ _|refine blk_drew ?_|refine blk_alloc ?_ _));refine blk_put (cs:=#[.int .i64 ((rd_T24 l0 x8_1).f0),.int .i64 ((rd_T24 l0 x8_1).f1),.int .i64 ((rd_T24 l0 x8_1).f2),.int .i64 0,.string (⟨#[]⟩:ByteArray)]) ?_ 3 _ rfl;(with_reducible repeat (first|refine blk_drewN ?_ _|refine blk_drew ?_|refine blk_alloc ?_ _));refine blk_put (cs:=#[.int .i64 ((rd_T24 l0 x8_1).f0),.int .i64 ((rd_T24 l0 x8_1).f1),.int .i64 0,.int .i64 0,.string (⟨#[]⟩:ByteArray)]) ?_ 2 _ rfl;(with_reducible repeat (first|refine blk_drewN ?_ _|refine blk_drew ?_|refine blk_alloc ?_ _));refine blk_put (cs:=#[.int .i64 ((rd_T24 l0 x8_1).f0),.int .i64 0,.int .i64 0,.int .i64 0,.string (⟨#[]⟩:ByteArray)]) ?_ 1 _ rfl;(with_reducible repeat (first|refine blk_drewN ?_ _|refine blk_drew ?_|refine blk_alloc ?_ _));refine blk_put (cs:=#[.int .i64 0,.int .i64 0,.int .i64 0,.int .i64 0,.string (⟨#[]⟩:ByteArray)]) ?_ 0 _ rfl;(with_reducible repeat (first|refine blk_drewN ?_ _|refine blk_drew ?_|refine blk_alloc ?_ _));exact BK226.out⟩,⟨by repeat (first|(with_reducible first|exact HB.out|apply below_alloc|apply pw_below_drewN|apply below_drew1|refine below_set ?_ GE226.out)|exact HB.out)⟩⟩
      case rest=>
       clear HC5;(try clear c2);(try clear c2b0);(try clear p2);(try clear q2);(try clear hx2);(try clear c3);(try clear c3b0);(try clear c4);(try clear c4b0);(try clear c8);(try clear c8b0);(try clear c9);(try clear c9b0);(try clear c9b1);(try clear c9b2);(try clear hcz7_0);(try clear hcz7_1);(try clear hcz7_2);(try clear hcz7_3);(try clear hcz7_4);(try clear hfz7_0);(try clear hfz7_1);(try clear hfz7_2);(try clear hfz7_3);(try clear hfz7_4);(try clear hx225_0);(try clear hx225_1);(try clear hx225_2);(try clear hx225_3);(try clear hx225_4);(try clear p225);(try clear q225);obtain ⟨kq,x3_4,rfl,HA,HJ4,BK226,HB⟩:=hcut;cases kq with
       | zero=>exact absurd HA.out (by simp [lex_Print.j1])
       | succ kj4=>
        have H:=HA.out;clear HA;simp only [lex_Print.j1] at H;have HC10:=Aside0.mk H;clear H;have hcz11_0:wc.cell? ⟨gb226,0,none⟩=some (.int .i64 ((rd_T24 l0 x8_1).f0)):=(blk_cell BK226.out 0).trans rfl;have hcz11_1:wc.cell? ⟨gb226,1,none⟩=some (.int .i64 ((rd_T24 l0 x8_1).f1)):=(blk_cell BK226.out 1).trans rfl;have hcz11_2:wc.cell? ⟨gb226,2,none⟩=some (.int .i64 ((rd_T24 l0 x8_1).f2)):=(blk_cell BK226.out 2).trans rfl;have hcz11_3:wc.cell? ⟨gb226,3,none⟩=some (.int .i64 ((rd_T24 l0 x8_1).f3)):=(blk_cell BK226.out 3).trans rfl;have hcz11_4:wc.cell? ⟨gb226,4,none⟩=some (.string ((rd_T24 l0 x8_1).f4)):=(blk_cell BK226.out 4).trans rfl;have hfz11_0:=blk_frozen BK226.out 0;have hfz11_1:=blk_frozen BK226.out 1;have hfz11_2:=blk_frozen BK226.out 2;have hfz11_3:=blk_frozen BK226.out 3;have hfz11_4:=blk_frozen BK226.out 4;go_upto_if 19 with (fail)
        go_cut [19] (fun v19 wc=>∃ (kq:Nat) (x19_9:Bool),v19 = .bool x19_9∧Aside0 (lex_Print.j2 kq x3_4 l0 (l0.length:Int) x8_1 ((rd_T24 l0 x8_1).f0) x19_9 ((rd_T24 l0 x8_1).f0) ((rd_T24 l0 x8_1).f1) ((rd_T24 l0 x8_1).f2) ((rd_T24 l0 x8_1).f3) ((rd_T24 l0 x8_1).f4)=some r)∧Aside0 (kq≤kj4)∧Aside0 (wc.heap[gb226]? = some (.cells #[.int .i64 ((rd_T24 l0 x8_1).f0),.int .i64 ((rd_T24 l0 x8_1).f1),.int .i64 ((rd_T24 l0 x8_1).f2),.int .i64 ((rd_T24 l0 x8_1).f3),.string ((rd_T24 l0 x8_1).f4)] 24 (0,0)))∧Aside0 (Below w.heap.size w wc))
        case first=>
         have H:=HC10.out;clear HC10;by_cases c12:((rd_T24 l0 x8_1).f0)=1
         ·rw [if_pos c12] at H;have c12b0:(((rd_T24 l0 x8_1).f0) == 1)=true:=beq_iff_eq.mpr c12;have c12b1:(((rd_T24 l0 x8_1).f0) != 1)=false:=bne_eq_false_iff_eq.mpr c12;clear c12
          (first|rw [c12b0]|(simp only [i64_w,i32_w];rw [c12b0])|skip)
          have H':=Aside0.mk H;clear H;go_wp2;go_meet
          case rel=>exact ⟨_,((((rd_T24 l0 x8_1).f0) == 1)),(by first|rfl|(simp;done)|(simp [*];done)),H',⟨by have:=HK1.out;have:=HJ4.out;first|omega|exact Nat.le_refl _⟩,⟨by (with_reducible repeat (first|refine blk_drewN ?_ _|refine blk_drew ?_|refine blk_alloc ?_ _));exact BK226.out⟩,⟨by repeat (first|(with_reducible first|exact HB.out|apply below_alloc|apply pw_below_drewN|apply below_drew1|refine below_set ?_ GE226.out)|exact HB.out)⟩⟩
         ·rw [if_neg c12] at H;have c12b0:(((rd_T24 l0 x8_1).f0) == 1)=false:=beq_eq_false_iff_ne.mpr c12;have c12b1:(((rd_T24 l0 x8_1).f0) != 1)=true:=bne_iff_ne.mpr c12
          (first|rw [c12b0]|(simp only [i64_w,i32_w];rw [c12b0])|skip)
          have H':=Aside0.mk H;clear H;go_wp2;go_meet
          case rel=>exact ⟨_,((((rd_T24 l0 x8_1).f0) == 2)),(by first|rfl|(simp;done)|(simp [*];done)),H',⟨by have:=HK1.out;have:=HJ4.out;first|omega|exact Nat.le_refl _⟩,⟨by (with_reducible repeat (first|refine blk_drewN ?_ _|refine blk_drew ?_|refine blk_alloc ?_ _));exact BK226.out⟩,⟨by repeat (first|(with_reducible first|exact HB.out|apply below_alloc|apply pw_below_drewN|apply below_drew1|refine below_set ?_ GE226.out)|exact HB.out)⟩⟩
        case rest=>
         clear HC10;(try clear c1);(try clear c2);(try clear c2b0);(try clear p2);(try clear q2);(try clear hx2);(try clear c3);(try clear c3b0);(try clear c4);(try clear c4b0);(try clear c8);(try clear c8b0);(try clear c9);(try clear c9b0);(try clear c9b1);(try clear c9b2);(try clear c12);(try clear c12b0);(try clear c12b1);(try clear hcz11_0);(try clear hcz11_1);(try clear hcz11_2);(try clear hcz11_3);(try clear hcz11_4);(try clear hcz7_0);(try clear hcz7_1);(try clear hcz7_2);(try clear hcz7_3);(try clear hcz7_4);(try clear hfz11_0);(try clear hfz11_1);(try clear hfz11_2);(try clear hfz11_3);(try clear hfz11_4);(try clear hfz7_0);(try clear hfz7_1);(try clear hfz7_2);(try clear hfz7_3);(try clear hfz7_4);(try clear hx225_0);(try clear hx225_1);(try clear hx225_2);(try clear hx225_3);(try clear hx225_4);(try clear p2);(try clear p225);(try clear q2);(try clear q225);obtain ⟨kq,x19_9,rfl,HA,HJ9,BK226,HB⟩:=hcut;cases kq with
         | zero=>exact absurd HA.out (by simp [lex_Print.j2])
         | succ kj9=>
          have H:=HA.out;clear HA;simp only [lex_Print.j2] at H;by_cases c13:x19_9=true
          ·subst c13;(have H1:(if x3_4.size+((rd_T24 l0 x8_1).f4).size≤9223372036854775807 then (lex_Print.l0 kj9 (x3_4++((rd_T24 l0 x8_1).f4)) l0 (l0.length:Int) (wrap64 (x8_1+1))) else (none))=some r:=by rw [if_pos rfl] at H;exact H);clear H;have H:=H1;clear H1;by_cases c14:x3_4.size+((rd_T24 l0 x8_1).f4).size≤9223372036854775807
           ·rw [if_pos c14] at H;have c14b0:=eq_true c14;have c14b1:decide (x3_4.size+((rd_T24 l0 x8_1).f4).size≤9223372036854775807)=true:=decide_eq_true c14;(try have c14b2:(9223372036854775807 < x3_4.size+((rd_T24 l0 x8_1).f4).size)=False:=eq_false (Nat.not_lt.2 c14));have H':=Aside0.mk H;clear H;have hcz15_0:wc.cell? ⟨gb226,0,none⟩=some (.int .i64 ((rd_T24 l0 x8_1).f0)):=(blk_cell BK226.out 0).trans rfl;have hcz15_1:wc.cell? ⟨gb226,1,none⟩=some (.int .i64 ((rd_T24 l0 x8_1).f1)):=(blk_cell BK226.out 1).trans rfl;have hcz15_2:wc.cell? ⟨gb226,2,none⟩=some (.int .i64 ((rd_T24 l0 x8_1).f2)):=(blk_cell BK226.out 2).trans rfl;have hcz15_3:wc.cell? ⟨gb226,3,none⟩=some (.int .i64 ((rd_T24 l0 x8_1).f3)):=(blk_cell BK226.out 3).trans rfl;have hcz15_4:wc.cell? ⟨gb226,4,none⟩=some (.string ((rd_T24 l0 x8_1).f4)):=(blk_cell BK226.out 4).trans rfl;have hfz15_0:=blk_frozen BK226.out 0;have hfz15_1:=blk_frozen BK226.out 1;have hfz15_2:=blk_frozen BK226.out 2;have hfz15_3:=blk_frozen BK226.out 3;have hfz15_4:=blk_frozen BK226.out 4;go_wp2;go_roundg kj9
            case measure=>have:=HK1.out;have:=HJ4.out;have:=HJ9.out;omega
            case rel=>exact ⟨(x3_4++((rd_T24 l0 x8_1).f4)),(wrap64 (x8_1+1)),(by first|rfl|(simp;done)|(simp [*];done)),(by first|rfl|(simp;done)|(simp [*];done)),H',⟨by have:=HK1.out;have:=HJ4.out;have:=HJ9.out;omega⟩,⟨by repeat (first|(with_reducible first|exact HB.out|apply below_alloc|apply pw_below_drewN|apply below_drew1|refine below_set ?_ GE226.out)|exact HB.out)⟩⟩
           ·rw [if_neg c14] at H;exact absurd H (by simp)
          ·replace c13:=Bool.eq_false_iff.mpr c13;subst c13;(have H1:(if ((rd_T24 l0 x8_1).f0)=3 then ((num_Digits.f ((rd_T24 l0 x8_1).f3)).bind fun t227=>(if x3_4.size+t227.size≤9223372036854775807 then (lex_Print.l0 kj9 (x3_4++t227) l0 (l0.length:Int) (wrap64 (x8_1+1))) else (none))) else (if ((rd_T24 l0 x8_1).f0)=4 then ((quote_Quote.f kj9 ((rd_T24 l0 x8_1).f4)).bind fun t228=>(if x3_4.size+t228.size≤9223372036854775807 then (lex_Print.l0 kj9 (x3_4++t228) l0 (l0.length:Int) (wrap64 (x8_1+1))) else (none))) else (lex_Print.l0 kj9 x3_4 l0 (l0.length:Int) (wrap64 (x8_1+1)))))=some r:=by rw [if_neg (show ¬ (false=true) by decide)] at H;exact H);clear H;have H:=H1;clear H1;by_cases c16:((rd_T24 l0 x8_1).f0)=3
           ·rw [if_pos c16] at H;have c16b0:(((rd_T24 l0 x8_1).f0) == 3)=true:=beq_iff_eq.mpr c16;have c16b1:(((rd_T24 l0 x8_1).f0) != 3)=false:=bne_eq_false_iff_eq.mpr c16;clear c16;replace H:=Option.bind_eq_some_iff.mp H;obtain ⟨t227,A170,H⟩:=H;replace H:(if x3_4.size+t227.size≤9223372036854775807 then (lex_Print.l0 kj9 (x3_4++t227) l0 (l0.length:Int) (wrap64 (x8_1+1))) else (none))=some r:=H;have A17:=Aside0.mk A170;clear A170;by_cases c18:x3_4.size+t227.size≤9223372036854775807
            ·rw [if_pos c18] at H;have c18b0:=eq_true c18;have c18b1:decide (x3_4.size+t227.size≤9223372036854775807)=true:=decide_eq_true c18;(try have c18b2:(9223372036854775807 < x3_4.size+t227.size)=False:=eq_false (Nat.not_lt.2 c18));have H':=Aside0.mk H;clear H;have hcz19_0:wc.cell? ⟨gb226,0,none⟩=some (.int .i64 ((rd_T24 l0 x8_1).f0)):=(blk_cell BK226.out 0).trans rfl;have hcz19_1:wc.cell? ⟨gb226,1,none⟩=some (.int .i64 ((rd_T24 l0 x8_1).f1)):=(blk_cell BK226.out 1).trans rfl;have hcz19_2:wc.cell? ⟨gb226,2,none⟩=some (.int .i64 ((rd_T24 l0 x8_1).f2)):=(blk_cell BK226.out 2).trans rfl;have hcz19_3:wc.cell? ⟨gb226,3,none⟩=some (.int .i64 ((rd_T24 l0 x8_1).f3)):=(blk_cell BK226.out 3).trans rfl;have hcz19_4:wc.cell? ⟨gb226,4,none⟩=some (.string ((rd_T24 l0 x8_1).f4)):=(blk_cell BK226.out 4).trans rfl;have hfz19_0:=blk_frozen BK226.out 0;have hfz19_1:=blk_frozen BK226.out 1;have hfz19_2:=blk_frozen BK226.out 2;have hfz19_3:=blk_frozen BK226.out 3;have hfz19_4:=blk_frozen BK226.out 4;go_wp2_with (first|((with_reducible refine gate_callee (f:=57) rfl ?_);refine goesL_ (some 31) rfl rfl Tryd.func57 (by kernel_rfl) rfl #[.int .i64 ((rd_T24 l0 x8_1).f3)] rfl (by (try simp only [List.map_toArray,List.map_cons,List.map_nil]);first|done|rfl|(simp only [List.length_drop,List.length_take];rfl)) ?_;(with_reducible refine (num_Digits.calls ((rd_T24 l0 x8_1).f3) t227 _ A17.out).mono ?_);rintro e w20 ⟨rfl,hb⟩;refine ⟨_,rfl,?_⟩;have n0_:=Aside0.mk (blk_below (g:=gb226) (o:=.cells #[.int .i64 ((rd_T24 l0 x8_1).f0),.int .i64 ((rd_T24 l0 x8_1).f1),.int .i64 ((rd_T24 l0 x8_1).f2),.int .i64 ((rd_T24 l0 x8_1).f3),.string ((rd_T24 l0 x8_1).f4)] 24 (0,0)) (by (with_reducible repeat (first|refine blk_drewN ?_ _|refine blk_drew ?_|refine blk_alloc ?_ _));exact BK226.out) hb);have n1_:=Aside0.mk (below_step (by repeat (first|(with_reducible first|exact HB.out|apply below_alloc|apply pw_below_drewN|apply below_drew1|refine below_set ?_ GE226.out)|exact HB.out)) hb);clear BK226;clear HB;have BK226:=n0_;have HB:=n1_;clear n0_ n1_;(try clear hb);(try clear hb2);(try clear hk);(try clear hi)));go_roundg kj9
             case measure=>have:=HK1.out;have:=HJ4.out;have:=HJ9.out;omega
             case rel=>exact ⟨(x3_4++t227),(wrap64 (x8_1+1)),(by first|rfl|(simp;done)|(simp [*];done)),(by first|rfl|(simp;done)|(simp [*];done)),H',⟨by have:=HK1.out;have:=HJ4.out;have:=HJ9.out;omega⟩,⟨by repeat (first|(with_reducible first|exact HB.out|apply below_alloc|apply pw_below_drewN|apply below_drew1|refine below_set ?_ GE226.out)|exact HB.out)⟩⟩
            ·rw [if_neg c18] at H;exact absurd H (by simp)
           ·rw [if_neg c16] at H;have c16b0:(((rd_T24 l0 x8_1).f0) == 3)=false:=beq_eq_false_iff_ne.mpr c16;have c16b1:(((rd_T24 l0 x8_1).f0) != 3)=true:=bne_iff_ne.mpr c16;by_cases c21:((rd_T24 l0 x8_1).f0)=4
            ·rw [if_pos c21] at H;have c21b0:(((rd_T24 l0 x8_1).f0) == 4)=true:=beq_iff_eq.mpr c21;have c21b1:(((rd_T24 l0 x8_1).f0) != 4)=false:=bne_eq_false_iff_eq.mpr c21;clear c21;replace H:=Option.bind_eq_some_iff.mp H;obtain ⟨t228,A220,H⟩:=H;replace H:(if x3_4.size+t228.size≤9223372036854775807 then (lex_Print.l0 kj9 (x3_4++t228) l0 (l0.length:Int) (wrap64 (x8_1+1))) else (none))=some r:=H;have A22:=Aside0.mk A220;clear A220;by_cases c23:x3_4.size+t228.size≤9223372036854775807
             ·rw [if_pos c23] at H;have c23b0:=eq_true c23;have c23b1:decide (x3_4.size+t228.size≤9223372036854775807)=true:=decide_eq_true c23;(try have c23b2:(9223372036854775807 < x3_4.size+t228.size)=False:=eq_false (Nat.not_lt.2 c23));have H':=Aside0.mk H;clear H;have hcz24_0:wc.cell? ⟨gb226,0,none⟩=some (.int .i64 ((rd_T24 l0 x8_1).f0)):=(blk_cell BK226.out 0).trans rfl;have hcz24_1:wc.cell? ⟨gb226,1,none⟩=some (.int .i64 ((rd_T24 l0 x8_1).f1)):=(blk_cell BK226.out 1).trans rfl;have hcz24_2:wc.cell? ⟨gb226,2,none⟩=some (.int .i64 ((rd_T24 l0 x8_1).f2)):=(blk_cell BK226.out 2).trans rfl;have hcz24_3:wc.cell? ⟨gb226,3,none⟩=some (.int .i64 ((rd_T24 l0 x8_1).f3)):=(blk_cell BK226.out 3).trans rfl;have hcz24_4:wc.cell? ⟨gb226,4,none⟩=some (.string ((rd_T24 l0 x8_1).f4)):=(blk_cell BK226.out 4).trans rfl;have hfz24_0:=blk_frozen BK226.out 0;have hfz24_1:=blk_frozen BK226.out 1;have hfz24_2:=blk_frozen BK226.out 2;have hfz24_3:=blk_frozen BK226.out 3;have hfz24_4:=blk_frozen BK226.out 4;go_wp2_with (first|((with_reducible refine gate_callee (f:=58) rfl ?_);refine goesL_ (some 38) rfl rfl Tryd.func58 (by kernel_rfl) rfl #[.string ((rd_T24 l0 x8_1).f4)] rfl (by (try simp only [List.map_toArray,List.map_cons,List.map_nil]);first|done|rfl|(simp only [List.length_drop,List.length_take];rfl)) ?_;(with_reducible refine (quote_Quote.calls kj9 ((rd_T24 l0 x8_1).f4) t228 _ A22.out).mono ?_);rintro e w25 ⟨rfl,hb⟩;refine ⟨_,rfl,?_⟩;have n0_:=Aside0.mk (blk_below (g:=gb226) (o:=.cells #[.int .i64 ((rd_T24 l0 x8_1).f0),.int .i64 ((rd_T24 l0 x8_1).f1),.int .i64 ((rd_T24 l0 x8_1).f2),.int .i64 ((rd_T24 l0 x8_1).f3),.string ((rd_T24 l0 x8_1).f4)] 24 (0,0)) (by (with_reducible repeat (first|refine blk_drewN ?_ _|refine blk_drew ?_|refine blk_alloc ?_ _));exact BK226.out) hb);have n1_:=Aside0.mk (below_step (by repeat (first|(with_reducible first|exact HB.out|apply below_alloc|apply pw_below_drewN|apply below_drew1|refine below_set ?_ GE226.out)|exact HB.out)) hb);clear BK226;clear HB;have BK226:=n0_;have HB:=n1_;clear n0_ n1_;(try clear hb);(try clear hb2);(try clear hk);(try clear hi)));go_roundg kj9
              case measure=>have:=HK1.out;have:=HJ4.out;have:=HJ9.out;omega
              case rel=>exact ⟨(x3_4++t228),(wrap64 (x8_1+1)),(by first|rfl|(simp;done)|(simp [*];done)),(by first|rfl|(simp;done)|(simp [*];done)),H',⟨by have:=HK1.out;have:=HJ4.out;have:=HJ9.out;omega⟩,⟨by repeat (first|(with_reducible first|exact HB.out|apply below_alloc|apply pw_below_drewN|apply below_drew1|refine below_set ?_ GE226.out)|exact HB.out)⟩⟩
             ·rw [if_neg c23] at H;exact absurd H (by simp)
            ·rw [if_neg c21] at H;have c21b0:(((rd_T24 l0 x8_1).f0) == 4)=false:=beq_eq_false_iff_ne.mpr c21;have c21b1:(((rd_T24 l0 x8_1).f0) != 4)=true:=bne_iff_ne.mpr c21;have H':=Aside0.mk H;clear H;go_wp2;go_roundg kj9
             case measure=>have:=HK1.out;have:=HJ4.out;have:=HJ9.out;omega
             case rel=>exact ⟨(x3_4),(wrap64 (x8_1+1)),(by first|rfl|(simp;done)|(simp [*];done)),(by first|rfl|(simp;done)|(simp [*];done)),H',⟨by have:=HK1.out;have:=HJ4.out;have:=HJ9.out;omega⟩,⟨by repeat (first|(with_reducible first|exact HB.out|apply below_alloc|apply pw_below_drewN|apply below_drew1|refine below_set ?_ GE226.out)|exact HB.out)⟩⟩
     ·rw [if_neg c4] at H;exact absurd H (by simp)
    ·rw [if_neg c3] at H;exact absurd H (by simp)
   ·rw [if_neg c2] at H;have c2b0:decide (x8_1 < (l0.length:Int))=false:=decide_eq_false c2;clear c2;obtain rfl:=Option.some.inj H;go_wp2;go_ret;exact ⟨by first|rfl|(simp [errW_none,errW_some] <;> rfl)|(simp [*,errW_none,errW_some] <;> rfl),bw HB.out⟩
end Go.Proofs.YtkbjblhompkdkaaDoor.PA
namespace Go.Proofs.YtkbjblhompkdkaaDoor.PB
open Go.Proofs.YtkbjblhompkdkaaDoor.PA
open Go.RowKit Go.Proofs.YtkbjblhompkdkaaDoorW.PrintWords Go.Proofs.YtkbjblhompkdkaaDoorW.PrintLast
set_option linter.unusedVariables false
set_option linter.unusedSimpArgs false
def errW:Option Int→Value
 | none=>.nilIface
 | some c=>.iface 29 (.int .i64 c)
theorem errW_none:errW none = .nilIface:=rfl
theorem errW_some (c:Int):errW (some c) = .iface 29 (.int .i64 c):=rfl
structure S83 where
 f0:Int
 f1:Int
 f2:Int
 f3:Int
 f4:ByteArray
def z83:S83:=⟨(0:Int),(0:Int),(0:Int),(0:Int),(⟨#[]⟩:ByteArray)⟩
def k83:Kd S83:=Kd.iso (Kd.pair (Kd.int .i64) (Kd.pair (Kd.int .i64) (Kd.pair (Kd.int .i64) (Kd.pair (Kd.int .i64) Kd.string)))) (fun x:S83=>(x.f0,x.f1,x.f2,x.f3,x.f4))
theorem k83_open {w:World} {x:S83} {cs:List Value} (h:k83.K w x cs):cs = [.int .i64 x.f0,.int .i64 x.f1,.int .i64 x.f2,.int .i64 x.f3,.string x.f4]:=by
 obtain ⟨_,_,rfl,rfl,⟨_,_,rfl,rfl,⟨_,_,rfl,rfl,⟨_,_,rfl,rfl,rfl⟩⟩⟩⟩:=h;exact rfl
theorem k83_mkM (w:World) (base:Nat) (ok:Nat→Prop) (x:S83)  : k83.M w base ok x [.int .i64 x.f0,.int .i64 x.f1,.int .i64 x.f2,.int .i64 x.f3,.string x.f4]:=⟨[.int .i64 x.f0],[.int .i64 x.f1,.int .i64 x.f2,.int .i64 x.f3,.string x.f4],rfl,rfl,⟨[.int .i64 x.f1],[.int .i64 x.f2,.int .i64 x.f3,.string x.f4],rfl,rfl,⟨[.int .i64 x.f2],[.int .i64 x.f3,.string x.f4],rfl,rfl,⟨[.int .i64 x.f3],[.string x.f4],rfl,rfl,rfl⟩⟩⟩⟩
def rd_T83 (xs:List S83) (i:Int):S83:=xs.getD i.toNat z83
theorem at_T83 {w:World} {A:Option Addr} {n:Nat} {xs:List S83} (h:Kd.C k83 w A n xs) (i:Int) (h0:0≤i) (h1:i < n):∃ ad ,A=some ad∧w.cell? (ad.add (i.toNat * 5))=some (.int .i64 (rd_T83 xs i).f0)∧w.cell? ⟨(ad.add (i.toNat * 5)).block,(ad.add (i.toNat * 5)).off+1,none⟩=some (.int .i64 (rd_T83 xs i).f1)∧w.cell? ⟨(ad.add (i.toNat * 5)).block,(ad.add (i.toNat * 5)).off+2,none⟩=some (.int .i64 (rd_T83 xs i).f2)∧w.cell? ⟨(ad.add (i.toNat * 5)).block,(ad.add (i.toNat * 5)).off+3,none⟩=some (.int .i64 (rd_T83 xs i).f3)∧w.cell? ⟨(ad.add (i.toNat * 5)).block,(ad.add (i.toNat * 5)).off+4,none⟩=some (.string (rd_T83 xs i).f4):=by
 obtain ⟨ad,c,e,_,hK,hc0⟩:=Kd.C_get h z83 i h0 h1;have hc:∀ j u,c[j]? = some u→w.cell? (ad.add (i.toNat * 5+j))=some u:=hc0;obtain rfl:=k83_open hK;exact ⟨ad,e,hc 0 _ rfl,by rw [← add_field _ _ 1 (by omega)];exact hc 1 _ rfl,by rw [← add_field _ _ 2 (by omega)];exact hc 2 _ rfl,by rw [← add_field _ _ 3 (by omega)];exact hc 3 _ rfl,by rw [← add_field _ _ 4 (by omega)];exact hc 4 _ rfl⟩
structure S59 where
 f0:Int
 f1:Int
 f2:ByteArray
end Go.Proofs.YtkbjblhompkdkaaDoor.PB

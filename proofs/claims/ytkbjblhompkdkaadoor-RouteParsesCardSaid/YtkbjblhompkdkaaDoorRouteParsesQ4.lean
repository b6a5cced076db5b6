/- YtkbjblhompkdkaaDoorRouteParsesQ4: LexPure, LexCode -/
import Derived.Test.YtkbjblhompkdkaaDoorRouteParsesQ2
import Derived.Laws.BytesArg
import Derived.Test.YtkbjblhompkdkaaDoorRouteParsesQ3
import Derived.Laws.BitsAllLaws
import Derived.KernelRfl
namespace Go.Proofs.YtkbjblhompkdkaaDoor.Pure
open Go.Proofs.YtkbjblhompkdkaaDoor
def foldV (v:Nat) (l:List Int):Nat:=l.foldl (fun v c=>10 * v+(c - 48).toNat) v
def allDig (l:List Int):Prop:=∀ c ∈ l,48≤c∧c≤57
instance (l:List Int):Decidable (allDig l):=inferInstanceAs (Decidable (∀ c ∈ l,48≤c∧c≤57))
def finS (below:Bool) (v:Nat):Int × Int:=
 if below=true then (if v > 9223372036854775808 then (0,4) else (-(v:Int),0)) else (if v > 9223372036854775807 then (0,4) else ((v:Int),0))
def Digs (long:Prop) (l:List Int):Prop:=allDig l∧l ≠ []∧¬ (l.head? = some 48∧long)
instance (long:Prop) [Decidable long] (l:List Int):Decidable (Digs long l):=inferInstanceAs (Decidable (_∧_∧¬ (_∧_)))
theorem allDig_cons {c:Int} {l:List Int}:allDig (c :: l) ↔ (48≤c∧c≤57)∧allDig l:=by simp [allDig]
def parseS (l:List Int):Int × Int:=
 if l.head? = some 45 then (if Digs (1 < l.length) l.tail then finS true (foldV 0 l.tail) else (0,2))
 else (if Digs (1 < l.length) l then finS false (foldV 0 l) else (0,2))
theorem foldV_ge (l:List Int):∀ v,v≤foldV v l:=by
 induction l with
 | nil=>intro v;exact Nat.le_refl _
 | cons c l ih=>
  intro v;have:=ih (10 * v+(c - 48).toNat);show v≤foldV (10 * v+(c - 48).toNat) l;omega
theorem finS_over (below:Bool) {v:Nat} (h:v > 9223372036854775808):finS below v=(0,4):=by
 unfold finS;cases below
 ·rw [if_neg (by simp),if_pos (by omega)]
 ·rw [if_pos rfl,if_pos h]
theorem head_app {l m:List Int} (h:l ≠ []):(l++m).head? = l.head?:=by
 cases l with
 | nil=>exact absurd rfl h
 | cons c l=>rfl
theorem foldV_snoc (v:Nat) (l:List Int) (d:Int):foldV v (l++[d])=10 * foldV v l+(d - 48).toNat:=by simp [foldV]
theorem foldV_decL (u:Nat):foldV 0 (decL u)=u:=by
 induction u using Nat.strongRecOn with
 | _ u ih=>
 by_cases h:u < 10
 ·rw [decL_small h];simp [foldV];omega
 ·rw [decL_big h,foldV_snoc,ih (u / 10) (by omega)];omega
theorem decL_ne (u:Nat):decL u ≠ []:=by
 by_cases h:u < 10
 ·rw [decL_small h];simp
 ·rw [decL_big h];simp
theorem decL_head (u:Nat):(decL u).head? = some 48→u=0:=by
 induction u using Nat.strongRecOn with
 | _ u ih=>
 by_cases h:u < 10
 ·rw [decL_small h];simp;omega
 ·rw [decL_big h,head_app (decL_ne _)];intro hh;have:=ih (u / 10) (by omega) hh;omega
theorem decL_dig (u:Nat):allDig (decL u):=decL_range u
theorem decL_of_small (l:List Int) (ha:allDig l) (hl:l.length=1):decL (foldV 0 l)=l:=by
 match l,hl with
 | [c],_=>
  have:=ha c (by simp);(have e:foldV 0 [c]=(c - 48).toNat:=by simp [foldV]);rw [e,decL_small (by omega)];congr 1;omega
theorem foldV_pos (l:List Int) (ha:allDig l) (hn:l ≠ []) (hh:l.head? ≠ some 48):0 < foldV 0 l:=by
 match l with
 | []=>exact absurd rfl hn
 | c :: l=>
  have hc:=ha c (by simp);(have h48:c ≠ 48:=by simpa using hh);have:=foldV_ge l (10 * 0+(c - 48).toNat);show 0 < foldV (10 * 0+(c - 48).toNat) l;omega
theorem decL_foldV (n:Nat):∀ l:List Int,l.length=n→allDig l→l ≠ []→¬ (l.head? = some 48∧1 < l.length)→decL (foldV 0 l)=l:=by
 induction n with
 | zero=>intro l hl _ hn;exact absurd (List.eq_nil_of_length_eq_zero hl) hn
 | succ n ih=>
  intro l hl ha hn hz;by_cases h1:l.length=1
  ·exact decL_of_small l ha h1
  ·obtain ⟨m,d,rfl⟩:∃ m d,l=m++[d]:=⟨l.dropLast,l.getLast hn,(List.dropLast_concat_getLast hn).symm⟩;(have hm:m.length=n:=by simpa using hl);have hmn:m ≠ []:=by
    intro e;subst e;simp at h1
   have ham:allDig m:=fun c hc=>ha c (by simp [hc]);have hd:=ha d (by simp);have hh:(m++[d]).head? = m.head?:=head_app hmn;have hz':m.head? ≠ some 48:=by
    intro e;refine hz ⟨by rw [hh];exact e,?_⟩;simp;exact List.length_pos_iff.2 hmn
   have hp:=foldV_pos m ham hmn hz';have e:=ih m hm ham hmn (fun h=>hz' h.1);rw [foldV_snoc,decL_big (by omega),show (10 * foldV 0 m+(d - 48).toNat) / 10=foldV 0 m by omega,e];congr 2;omega
theorem parseS_digL (n:Int) (h0 : -9223372036854775808≤n) (h1:n≤9223372036854775807):parseS (digL n)=(n,0):=by
 unfold digL parseS;by_cases hn:n < 0
 ·rw [if_pos hn,if_pos (by simp),if_pos,List.tail_cons,foldV_decL]
  ·unfold finS;rw [if_pos rfl,if_neg (by omega)];congr 1;omega
  ·refine ⟨decL_dig _,decL_ne _,fun h=>?_⟩;have:=decL_head _ h.1;omega
 ·rw [if_neg hn,if_neg,if_pos,foldV_decL]
  ·unfold finS;rw [if_neg (by simp),if_neg (by omega)];congr 1;omega
  ·refine ⟨decL_dig _,decL_ne _,fun h=>?_⟩;have:=decL_head _ h.1;rw [this] at h;have h2:=h.2;rw [decL_small (by omega)] at h2;simp at h2
  ·intro h;have hm:=List.mem_of_mem_head? (Option.mem_def.2 h);have:=decL_range _ _ hm;omega
theorem digL_parseS (l:List Int) (h:(parseS l).2=0):digL (parseS l).1=l:=by
 unfold parseS at h ⊢;by_cases hm:l.head? = some 45
 ·obtain ⟨t,rfl⟩:∃ t,l=45 :: t:=by
   match l,hm with
   | c :: t,hm=>exact ⟨t,by simp at hm;rw [hm]⟩
  rw [if_pos hm] at h ⊢;rw [List.tail_cons] at h ⊢;by_cases hD:Digs (1 < (45 :: t).length) t
  ·rw [if_pos hD] at h ⊢;obtain ⟨ha,hne,hz⟩:=hD;(have hlong:1 < (45 :: t).length:=by simp;exact List.length_pos_iff.2 hne);have hz':t.head? ≠ some 48:=fun e=>hz ⟨e,hlong⟩;have hp:=foldV_pos t ha hne hz';unfold finS at h ⊢;rw [if_pos rfl] at h ⊢;by_cases hb:foldV 0 t > 9223372036854775808
   ·rw [if_pos hb] at h;simp at h
   ·rw [if_neg hb];unfold digL;rw [if_pos (by omega)];congr 1;rw [show (-((foldV 0 t:Nat):Int)).natAbs=foldV 0 t by omega];exact decL_foldV _ t rfl ha hne (fun e=>hz' e.1)
  ·rw [if_neg hD] at h;simp at h
 ·rw [if_neg hm] at h ⊢;by_cases hD:Digs (1 < l.length) l
  ·rw [if_pos hD] at h ⊢;obtain ⟨ha,hne,hz⟩:=hD;unfold finS at h ⊢;rw [if_neg (show ¬ (false=true) by simp)] at h ⊢;by_cases hb:foldV 0 l > 9223372036854775807
   ·rw [if_pos hb] at h;simp at h
   ·rw [if_neg hb];unfold digL;rw [if_neg (by omega)];rw [show ((foldV 0 l:Nat):Int).natAbs=foldV 0 l by omega];exact decL_foldV _ l rfl ha hne hz
  ·rw [if_neg hD] at h;simp at h
theorem parseS_range (l:List Int) : -9223372036854775808≤(parseS l).1∧(parseS l).1≤9223372036854775807:=by
 unfold parseS finS;(repeat' split);all_goals (simp only [];omega)
end Go.Proofs.YtkbjblhompkdkaaDoor.Pure
namespace Go.Proofs.YtkbjblhompkdkaaDoor.Pure
def isLet (c:Int):Prop:=(97≤c∧c≤122) ∨ (65≤c∧c≤90) ∨ c=95
def isDig (c:Int):Prop:=48≤c∧c≤57
instance (c:Int):Decidable (isLet c):=inferInstanceAs (Decidable (_ ∨ _ ∨ _))
instance (c:Int):Decidable (isDig c):=inferInstanceAs (Decidable (_∧_))
def nameR (first:Bool):List Int→Bool
 | []=>true
 | c :: r=>(decide (isLet c) || (!first && decide (isDig c))) && nameR false r
def nameS (l:List Int):Bool:=!l.isEmpty && nameR true l
end Go.Proofs.YtkbjblhompkdkaaDoor.Pure
namespace Go.Proofs.YtkbjblhompkdkaaDoor.Pure
open Go.Proofs.YtkbjblhompkdkaaDoor
def hexD (n:Int):Int:=if n < 10 then 48+n else 87+n
def hexV (great:Bool) (c:Int):Option Int:=
 if 48≤c∧c≤57 then some (c - 48) else if 97≤c∧c≤102 then some (c - 87) else if great=true∧65≤c∧c≤70 then some (c - 55) else none
def qone (c:Int):List Int:=
 if letterS c > 0 then [92,letterS c] else if c < 32 ∨ c > 126 then [92,120,hexD (c / 16),hexD (c % 16)] else [c]
def qbody (l:List Int):List Int:=l.flatMap qone
def quoteL (l:List Int):List Int:=34 :: (qbody l++[34])
def pairL (n:Nat):List Int→Nat→Int ⊕ (Nat × Int)
 | [],_=>.inr (n,10)
 | [a],at_=>match hexV true a with|none=>.inr (at_,2)|some _=>.inr (n,10)
 | a :: b :: _,at_=>match hexV true a with
  | none=>.inr (at_,2)
  | some x=>match hexV true b with
   | none=>.inr (at_+1,2)
   | some y=>.inl (16 * x+y)
def unqL (n:Nat) (l:List Int) (at_:Nat) (acc:List Int):List Int × Nat × Int:=
 match l with
 | []=>([],n,10)
 | c :: r=>
  if c=34 then (acc,at_+1,0)
  else if c < 32 then ([],at_,2)
  else if c=92 then
   match r with
   | []=>([],n,10)
   | d :: r2=>
    if d=120 then
     match pairL n r2 (at_+2) with
     | .inl x=>unqL n (r2.drop 2) (at_+4) (acc++[x])
     | .inr (p,e)=>([],p,e)
    else if (byLetterS d).2=true then unqL n r2 (at_+2) (acc++[(byLetterS d).1])
    else ([],at_+1,2)
  else unqL n r (at_+1) (acc++[c])
termination_by l.length
decreasing_by all_goals (simp;try omega)
section
variable (n p:Nat) (acc r:List Int) {c d:Int}
theorem unqL_nil:unqL n [] p acc=([],n,10):=by rw [unqL.eq_def]
theorem unqL_mark:unqL n (34 :: r) p acc=(acc,p+1,0):=by rw [unqL.eq_def];rfl
theorem unqL_low (h:c < 32):unqL n (c :: r) p acc=([],p,2):=by
 rw [unqL.eq_def];simp only [];rw [if_neg (by omega),if_pos h]
theorem unqL_end:unqL n [92] p acc=([],n,10):=by rw [unqL.eq_def];rfl
theorem unqL_hex:unqL n (92 :: 120 :: r) p acc=(match pairL n r (p+2) with
  | .inl x=>unqL n (r.drop 2) (p+4) (acc++[x])
  | .inr (q,e)=>([],q,e)):=by
 rw [unqL.eq_def];rfl
theorem unqL_let (h:d ≠ 120):unqL n (92 :: d :: r) p acc=(if (byLetterS d).2=true then unqL n r (p+2) (acc++[(byLetterS d).1]) else ([],p+1,2)):=by
 rw [unqL.eq_def];simp only [];rw [if_neg (by omega),if_neg (by omega),if_pos trivial,if_neg h]
theorem unqL_plain (h34:c ≠ 34) (h32:¬ c < 32) (h92:c ≠ 92):unqL n (c :: r) p acc=unqL n r (p+1) (acc++[c]):=by
 rw [unqL.eq_def];simp only [];rw [if_neg h34,if_neg h32,if_neg h92]
end
def unquoteL (l:List Int):List Int × Nat × Int:=
 match l with
 | []=>([],0,10)
 | c :: r=>if c=34 then unqL (r.length+1) r 1 [] else ([],0,2)
theorem hexV_hexD (g:Bool) {x:Int} (h0:0≤x) (h1:x < 16):hexV g (hexD x)=some x:=by
 unfold hexV hexD;by_cases h:x < 10
 ·rw [if_pos h,if_pos (by omega)];congr 1;omega
 ·rw [if_neg h,if_neg (by omega),if_pos (by omega)];congr 1;omega
theorem letter_cases (c:Int):(letterS c > 0∧letterS c ≠ 120∧byLetterS (letterS c)=(c,true)) ∨ (letterS c=0∧c ≠ 34∧c ≠ 92):=by
 unfold letterS;by_cases h1:c=34
 ·subst h1;left;simp [byLetterS]
 by_cases h2:c=92
 ·subst h2;left;simp [byLetterS]
 by_cases h3:c=10
 ·subst h3;left;simp [byLetterS]
 by_cases h4:c=9
 ·subst h4;left;simp [byLetterS]
 by_cases h5:c=13
 ·subst h5;left;simp [byLetterS]
 right;simp [h1,h2,h3,h4,h5]
theorem unq_one (n:Nat) (c:Int) (h0:0≤c) (h1:c≤255) (r:List Int) (p:Nat) (acc:List Int) :
  unqL n (qone c++r) p acc=unqL n r (p+(qone c).length) (acc++[c]):=by
 rcases letter_cases c with ⟨hl,hx,hb⟩|⟨hl,h34,h92⟩
 ·(have e:qone c = [92,letterS c]:=by unfold qone;rw [if_pos hl]);rw [e];simp only [List.cons_append,List.nil_append,List.length_cons,List.length_nil];rw [unqL_let _ _ _ _ hx,hb];simp
 ·by_cases hr:c < 32 ∨ c > 126
  ·(have e:qone c = [92,120,hexD (c / 16),hexD (c % 16)]:=by unfold qone;rw [if_neg (by omega),if_pos hr]);rw [e];simp only [List.cons_append,List.nil_append,List.length_cons,List.length_nil];rw [unqL_hex];simp only [pairL,hexV_hexD true (show 0≤c / 16 by omega) (show c / 16 < 16 by omega),hexV_hexD true (show 0≤c % 16 by omega) (show c % 16 < 16 by omega),List.drop_succ_cons,List.drop_zero];rw [show 16 * (c / 16)+c % 16=c by omega]
  ·(have e:qone c = [c]:=by unfold qone;rw [if_neg (by omega),if_neg hr]);rw [e];simp only [List.cons_append,List.nil_append,List.length_cons,List.length_nil];rw [unqL_plain _ _ _ _ h34 (by omega) h92]
theorem unq_body (n:Nat) (l:List Int):∀ (r:List Int) (p:Nat) (acc:List Int),(∀ x ∈ l,0≤x∧x≤255) →
  unqL n (qbody l++r) p acc=unqL n r (p+(qbody l).length) (acc++l):=by
 induction l with
 | nil=>intro r p acc _;simp [qbody]
 | cons c l ih=>
  intro r p acc hb;have hc:=hb c (by simp);(have e:qbody (c :: l)=qone c++qbody l:=by simp [qbody]);rw [e,List.append_assoc,unq_one n c hc.1 hc.2,ih _ _ _ (fun x hx=>hb x (by simp [hx]))];simp [Nat.add_assoc]
theorem unquote_quote (l r:List Int) (hb:∀ x ∈ l,0≤x∧x≤255):unquoteL (quoteL l++r)=(l,(quoteL l).length,0):=by
 unfold unquoteL quoteL;simp only [List.cons_append,List.append_assoc];rw [if_pos trivial,unq_body _ l _ 1 [] hb];simp only [List.nil_append];rw [unqL_mark];simp;omega
end Go.Proofs.YtkbjblhompkdkaaDoor.Pure
namespace Go.Proofs.YtkbjblhompkdkaaDoor.Pure
open Go.Proofs.YtkbjblhompkdkaaDoor
theorem qone_length (c:Int):(qone c).length≤4:=by
 unfold qone;(repeat' split);all_goals simp
theorem qbody_length (l:List Int):(qbody l).length≤4 * l.length:=by
 induction l with
 | nil=>simp [qbody]
 | cons c l ih=>
  (have e:qbody (c :: l)=qone c++qbody l:=by simp [qbody]);have:=qone_length c;rw [e,List.length_append,List.length_cons];omega
theorem qone_bytes (c:Int) (h0:0≤c) (h1:c≤255):∀ x ∈ qone c,0≤x∧x≤255:=by
 (have hl:0≤letterS c∧letterS c≤255:=by (unfold letterS;repeat' split);all_goals omega);(have hd:∀ x:Int,0≤x→x < 16→0≤hexD x∧hexD x≤255:=by intro x a b;unfold hexD;split <;> omega);have d1:=hd (c / 16) (by omega) (by omega);have d2:=hd (c % 16) (by omega) (by omega);unfold qone;(repeat' split);all_goals
  intro x hx;simp at hx;omega
theorem quoteL_bytes (l:List Int) (h:∀ x ∈ l,0≤x∧x≤255):∀ x ∈ quoteL l,0≤x∧x≤255:=by
 intro x hx;simp only [quoteL,List.mem_cons,List.mem_append,List.not_mem_nil,or_false,qbody,List.mem_flatMap] at hx;rcases hx with rfl|⟨c,hc,hx⟩|rfl
 ·omega
 ·exact qone_bytes c (h c hc).1 (h c hc).2 x hx
 ·omega
end Go.Proofs.YtkbjblhompkdkaaDoor.Pure
namespace Go.Proofs.YtkbjblhompkdkaaDoor.Pure
open Go.Proofs.YtkbjblhompkdkaaDoor
structure Tok where
 kind:Int
 at_:Nat
 end_:Nat
 n:Int
 text:List Int
def blank (c:Int):Bool:=decide (c=32 ∨ c=9 ∨ c=10 ∨ c=13)
def inName (c:Int):Bool:=decide (isLet c ∨ isDig c)
def digB (c:Int):Bool:=decide (isDig c)
def lead (p:Int→Bool):List Int→Nat
 | []=>0
 | c :: r=>if p c=true then lead p r+1 else 0
def signsL:List (List Int):=[[46,46],[61,61],[33,61],[60,61],[62,61],[38,38],[124,124],[91],[93],[123],[125],[60],[62],[40],[41],[44],[58],[46],[42],[63],[33],[36],[64]]
def signAt (l:List Int):Option (List Int):=signsL.find? fun x=>x.isPrefixOf l
def tokAt (p:Nat):List Int→Tok ⊕ (Nat × Int)
 | []=>.inl ⟨0,p,p,0,[]⟩
 | c :: r=>
  if c=34 then
   if (unquoteL (c :: r)).2.2=0 then .inl ⟨4,p,p+(unquoteL (c :: r)).2.1,0,(unquoteL (c :: r)).1⟩
   else .inr (p+(unquoteL (c :: r)).2.1,(unquoteL (c :: r)).2.2)
  else if isLet c then .inl ⟨2,p,p+1+lead inName r,0,c :: r.take (lead inName r)⟩
  else if c=45 ∨ isDig c then
   if (parseS (c :: r.take (lead digB r))).2=0 then .inl ⟨3,p,p+1+lead digB r,(parseS (c :: r.take (lead digB r))).1,[]⟩
   else .inr (p,(parseS (c :: r.take (lead digB r))).2)
  else match signAt (c :: r) with
   | some x=>.inl ⟨1,p,p+x.length,0,x⟩
   | none=>.inr (p,2)
def nextS (l:List Int) (a:Nat):Tok ⊕ (Nat × Int):=tokAt (a+lead blank (l.drop a)) (l.drop (a+lead blank (l.drop a)))
def allF:Nat→List Int→Nat→List Tok ⊕ (Nat × Int)
 | 0,_,_=>.inl []
 | f+1,l,a=>match nextS l a with
  | .inr e=>.inr e
  | .inl t=>if t.kind=0 then .inl [] else match allF f l t.end_ with
   | .inl ts=>.inl (t :: ts)
   | .inr e=>.inr e
def allS (l:List Int) (a:Nat):List Tok ⊕ (Nat × Int):=allF (l.length+1 - a) l a
theorem lead_le (p:Int→Bool) (l:List Int):lead p l≤l.length:=by
 induction l with
 | nil=>simp [lead]
 | cons c r ih=>simp only [lead];split <;> (simp;try omega)
theorem lead_all (p:Int→Bool) (l:List Int):∀ x ∈ l.take (lead p l),p x=true:=by
 induction l with
 | nil=>simp [lead]
 | cons c r ih=>
  simp only [lead];split
  ·rename_i h;simp only [List.take_succ_cons,List.mem_cons,forall_eq_or_imp];exact ⟨h,ih⟩
  ·simp
theorem lead_app (p:Int→Bool) (l r:List Int) (hl:∀ x ∈ l,p x=true) (hr:∀ c s,r=c :: s→p c=false):lead p (l++r)=l.length:=by
 induction l with
 | nil=>
  cases r with
  | nil=>simp [lead]
  | cons c s=>simp [lead,hr c s rfl]
 | cons c l ih=>
  simp only [List.cons_append,lead];rw [if_pos (hl c (by simp)),ih (fun x hx=>hl x (by simp [hx]))];simp
theorem signAt_len {l x:List Int} (h:signAt l=some x):x.isPrefixOf l=true∧x ∈ signsL:=⟨List.find?_some (p:=fun x:List Int=>x.isPrefixOf l) h,List.mem_of_find?_eq_some (p:=fun x:List Int=>x.isPrefixOf l) h⟩
theorem signs_pos:∀ x ∈ signsL,0 < x.length∧x.length≤2:=by decide
theorem unqL_len (n:Nat):∀ (m:Nat) (l:List Int),l.length≤m→∀ (p:Nat) (acc:List Int),p+l.length=n→(unqL n l p acc).2.1≤n∧((unqL n l p acc).2.2=0→(unqL n l p acc).1.length+p+1≤(unqL n l p acc).2.1+acc.length):=by
 intro m;induction m with
 | zero=>
  intro l hl p acc hp;have:l = []:=List.eq_nil_of_length_eq_zero (by omega);subst this;rw [unqL_nil];simp
 | succ m ih=>
  intro l hl p acc hp;match l with
  | []=>rw [unqL_nil];simp
  | c :: r=>
   simp only [List.length_cons] at hl hp;by_cases h34:c=34
   ·subst h34;rw [unqL_mark];simp only [true_implies];omega
   by_cases h32:c < 32
   ·rw [unqL_low _ _ _ _ h32];simp only [show ¬ ((2:Int)=0) by omega,false_implies,and_true];omega
   by_cases h92:c=92
   ·subst h92;match r with
    | []=>rw [unqL_end];simp
    | d :: r2=>
     simp only [List.length_cons] at hl hp;by_cases hx:d=120
     ·subst hx;rw [unqL_hex];match r2 with
      | []=>simp [pairL]
      | [a]=>
       simp only [pairL,List.length_singleton] at hp ⊢;cases hexV true a with
       | none=>simp;omega
       | some x=>simp
      | a :: b :: r3=>
       simp only [pairL,List.length_cons] at hl hp ⊢;cases hexV true a with
       | none=>simp;omega
       | some x=>
        cases hexV true b with
        | none=>simp;omega
        | some y=>
         simp only [List.drop_succ_cons,List.drop_zero];have:=ih r3 (by omega) (p+4) (acc++[16 * x+y]) (by omega);refine ⟨this.1,fun h0=>?_⟩;have h2:=this.2 h0;simp at h2 ⊢;omega
     ·rw [unqL_let _ _ _ _ hx];split
      ·have:=ih r2 (by omega) (p+2) (acc++[(byLetterS d).1]) (by omega);refine ⟨this.1,fun h0=>?_⟩;have h2:=this.2 h0;simp at h2 ⊢;omega
      ·simp only [show ¬ ((2:Int)=0) by omega,false_implies,and_true];omega
   ·rw [unqL_plain _ _ _ _ h34 h32 h92];have:=ih r (by omega) (p+1) (acc++[c]) (by omega);refine ⟨this.1,fun h0=>?_⟩;have h2:=this.2 h0;simp at h2 ⊢;omega
theorem unquoteL_len (l:List Int):(unquoteL l).2.1≤l.length∧((unquoteL l).2.2=0→(unquoteL l).1.length+2≤(unquoteL l).2.1):=by
 unfold unquoteL;match l with
 | []=>simp
 | c :: r=>
  simp only [];split
  ·have:=unqL_len (r.length+1) r.length r (Nat.le_refl _) 1 [] (by omega);refine ⟨by simpa using this.1,fun h=>?_⟩;have:=this.2 h;simp at this;omega
  ·simp
theorem tokAt_ok {p:Nat} {l:List Int} {t:Tok} (h:tokAt p l = .inl t) :
  t.at_=p∧(l = []→t=⟨0,p,p,0,[]⟩)∧(l ≠ []→t.kind ≠ 0∧p < t.end_∧t.end_≤p+l.length):=by
 match l with
 | []=>
  simp only [tokAt,Sum.inl.injEq] at h;subst h;simp
 | c :: r=>
  have hr1:=lead_le inName r;have hr2:=lead_le digB r;simp only [tokAt] at h;refine (fun (hh:t.at_=p∧(t.kind ≠ 0∧p < t.end_∧t.end_≤p+(c :: r).length))=>⟨hh.1,fun e=>absurd e (by simp),fun _=>hh.2⟩) ?_;simp only [List.length_cons];split at h
  ·split at h
   ·rename_i h0;have hu:=unquoteL_len (c :: r);have h2:=hu.2 h0;simp only [List.length_cons] at hu;simp only [Sum.inl.injEq] at h;subst h;simp;omega
   ·simp at h
  ·split at h
   ·simp only [Sum.inl.injEq] at h;subst h;simp;omega
   ·split at h
    ·split at h
     ·simp only [Sum.inl.injEq] at h;subst h;simp;omega
     ·simp at h
    ·split at h
     ·rename_i x hx;obtain ⟨hp,hm⟩:=signAt_len hx;have:=signs_pos x hm;have h3:=(List.isPrefixOf_iff_prefix.1 hp).length_le;simp only [List.length_cons] at h3;simp only [Sum.inl.injEq] at h;subst h;simp;omega
     ·simp at h
theorem tokAt_bad {p:Nat} {l:List Int} {e:Nat × Int} (h:tokAt p l = .inr e):e.1≤p+l.length∧e.2 ≠ 0:=by
 match l with
 | []=>simp [tokAt] at h
 | c :: r=>
  simp only [tokAt] at h;split at h
  ·split at h
   ·simp at h
   ·rename_i h0;have hu:=unquoteL_len (c :: r);simp only [Sum.inr.injEq] at h;subst h;exact ⟨by simp only [];omega,h0⟩
  ·split at h
   ·simp at h
   ·split at h
    ·split at h
     ·simp at h
     ·rename_i h0;simp only [Sum.inr.injEq] at h;subst h;exact ⟨by simp only [];omega,h0⟩
    ·split at h
     ·simp at h
     ·simp only [Sum.inr.injEq] at h;subst h;exact ⟨by simp only [];omega,by simp⟩
theorem skip_le (l:List Int) {a:Nat} (ha:a≤l.length):a+lead blank (l.drop a)≤l.length:=by
 have:=lead_le blank (l.drop a);simp at this;omega
theorem nextS_ok {l:List Int} {a:Nat} (ha:a≤l.length) {t:Tok} (h:nextS l a = .inl t) :
  t.at_=a+lead blank (l.drop a)∧t.end_≤l.length∧t.at_≤l.length∧(t.kind=0→t.at_=l.length∧t.end_=l.length)∧(t.kind ≠ 0→t.at_ < t.end_):=by
 have hs:=skip_le l ha;unfold nextS at h;obtain ⟨h1,h2,h3⟩:=tokAt_ok h;by_cases he:l.drop (a+lead blank (l.drop a)) = []
 ·have e:=h2 he;have hl:l.length≤a+lead blank (l.drop a):=List.drop_eq_nil_iff.1 he;rw [e];simp;omega
 ·obtain ⟨h4,h5,h6⟩:=h3 he;simp at h6;refine ⟨h1,by omega,by omega,fun h=>absurd h h4,fun _=>by omega⟩
theorem nextS_bad {l:List Int} {a:Nat} (ha:a≤l.length) {e:Nat × Int} (h:nextS l a = .inr e):e.1≤l.length∧e.2 ≠ 0:=by
 have hs:=skip_le l ha;have:=tokAt_bad h;simp at this;exact ⟨by omega,this.2⟩
theorem allF_more (l:List Int):∀ (d a f:Nat),a≤l.length→l.length - a≤d→d < f→allF f l a=allF (d+1) l a:=by
 intro d;induction d with
 | zero=>
  intro a f ha hd hf;obtain ⟨f,rfl⟩:∃ g,f=g+1:=⟨f - 1,by omega⟩;simp only [allF];cases hn:nextS l a with
  | inr e=>rfl
  | inl t=>
   have hk:=nextS_ok ha hn;have h0:t.kind=0:=by
    by_cases h0:t.kind=0
    ·exact h0
    ·have:=hk.2.2.2.2 h0;omega
   simp only [h0,if_true]
 | succ d ih=>
  intro a f ha hd hf;obtain ⟨f,rfl⟩:∃ g,f=g+1:=⟨f - 1,by omega⟩;rw [allF,allF.eq_2 l a (d+1)];cases hn:nextS l a with
  | inr e=>rfl
  | inl t=>
   have hk:=nextS_ok ha hn;simp only [];split
   ·rfl
   ·rename_i h0;have:=hk.2.2.2.2 h0;rw [ih t.end_ f hk.2.1 (by omega) (by omega)]
theorem allS_step (l:List Int) {a:Nat} (ha:a≤l.length):allS l a=match nextS l a with
  | .inr e=>.inr e
  | .inl t=>if t.kind=0 then .inl [] else match allS l t.end_ with
   | .inl ts=>.inl (t :: ts)
   | .inr e=>.inr e:=by
 unfold allS;rw [show l.length+1 - a=(l.length - a)+1 by omega,allF];cases hn:nextS l a with
 | inr e=>rfl
 | inl t=>
  have hk:=nextS_ok ha hn;simp only [];split
  ·rfl
  ·rename_i h0;have:=hk.2.2.2.2 h0;rw [allF_more l (l.length - t.end_) t.end_ (l.length - a) hk.2.1 (Nat.le_refl _) (by omega),show l.length+1 - t.end_=l.length - t.end_+1 by omega]
def Follow (l:List Int):Nat→List Tok→Prop
 | a,[]=>a≤l.length∧∀ k,a≤k→k < l.length→blank (l.getD k 0)=true
 | a,t :: ts=>a≤t.at_∧t.at_ < t.end_∧t.end_≤l.length∧(∀ k,a≤k→k < t.at_→blank (l.getD k 0)=true)∧Follow l t.end_ ts
theorem blanks_at (l:List Int) (a:Nat) (k:Nat) (h1:a≤k) (h2:k < a+lead blank (l.drop a)):blank (l.getD k 0)=true:=by
 have h:=lead_all blank (l.drop a);have hl:=lead_le blank (l.drop a);simp at hl;refine h _ ?_;rw [List.mem_take_iff_getElem];refine ⟨k - a,by simp;omega,?_⟩;simp only [List.getElem_drop];(have hk:k < l.length:=by omega);simp [List.getD_eq_getElem?_getD,hk,show a+(k - a)=k by omega]
theorem allS_follow (l:List Int) (ts:List Tok):∀ a,a≤l.length→allS l a = .inl ts→Follow l a ts:=by
 induction ts with
 | nil=>
  intro a ha h;rw [allS_step l ha] at h;cases hn:nextS l a with
  | inr e=>rw [hn] at h;simp at h
  | inl t=>
   have hk:=nextS_ok ha hn;rw [hn] at h;simp only [] at h;split at h
   ·rename_i h0;have h2:=hk.2.2.2.1 h0;exact ⟨ha,fun k h3 h4=>blanks_at l a k h3 (by omega)⟩
   ·split at h <;> simp at h
 | cons u ts ih=>
  intro a ha h;rw [allS_step l ha] at h;cases hn:nextS l a with
  | inr e=>rw [hn] at h;simp at h
  | inl t=>
   have hk:=nextS_ok ha hn;rw [hn] at h;simp only [] at h;split at h
   ·simp at h
   ·rename_i h0;have h2:=hk.2.2.2.2 h0;cases hm:allS l t.end_ with
    | inr e=>rw [hm] at h;simp at h
    | inl vs=>
     rw [hm] at h;simp only [Sum.inl.injEq,List.cons.injEq] at h;obtain ⟨rfl,rfl⟩:=h;exact ⟨by omega,h2,hk.2.1,fun k h3 h4=>blanks_at l a k h3 (by omega),ih _ hk.2.1 hm⟩
end Go.Proofs.YtkbjblhompkdkaaDoor.Pure
namespace Go.Proofs.YtkbjblhompkdkaaDoor.Pure
open Go.RowKit Go.Proofs.YtkbjblhompkdkaaDoor.PA Go.Proofs.YtkbjblhompkdkaaDoorW.PrintWords Go.Proofs.YtkbjblhompkdkaaDoorW.PrintLast
theorem Ev.succ {α:Type} {g:Nat→Option α} {r:α} (h:Ev (fun k=>g (k+1)) r):Ev g r:=by
 obtain ⟨K,h⟩:=h;refine ⟨K+1,fun k hk=>?_⟩;have:g (k - 1+1)=some r:=h (k - 1) (by omega);rwa [show k - 1+1=k by omega] at this
theorem Ev.add {α:Type} {g:Nat→Option α} {r:α} (h:Ev g r) (m:Nat):Ev (fun k=>g (k+m)) r:=by
 obtain ⟨K,h⟩:=h;exact ⟨K,fun k hk=>h _ (by omega)⟩
theorem Ev.at_ {α:Type} {g:Nat→Option α} {r:α} (m:Nat) (h:∀ k,m≤k→g k=some r):Ev g r:=⟨m,h⟩
theorem Ev.const {α:Type} {r:α} {o:Option α} (h:o=some r):Ev (fun _=>o) r:=⟨0,fun _ _=>h⟩
theorem w64 {n:Int} (h0 : -9223372036854775808≤n) (h1:n≤9223372036854775807):wrap64 n=n:=by unfold wrap64;omega
theorem i_next {i n:Nat} (h:i < n) (hn:n≤140737488351232):wrap64 ((i:Int)+1)=((i+1:Nat):Int):=by unfold wrap64;omega
theorem bytes_drop (s:ByteArray) {i:Nat} (h:i < s.size):(bytesOf s).drop i=bt s (i:Int) :: (bytesOf s).drop (i+1):=by
 (have hl:i < (bytesOf s).length:=by rw [bytesOf_length];exact h);rw [List.drop_eq_getElem_cons hl,← rd_bytesOf];simp [rd,hl]
theorem bytes_end (s:ByteArray) {i:Nat} (h:s.size≤i):(bytesOf s).drop i = []:=List.drop_eq_nil_of_le (by rw [bytesOf_length];exact h)
theorem bytes_nil {s:ByteArray} (h:s.size=0):bytesOf s = []:=List.eq_nil_of_length_eq_zero (by rw [bytesOf_length];exact h)
theorem bytesOf_range (s:ByteArray):∀ x ∈ bytesOf s,0≤x∧x≤255:=by
 intro x hx;simp only [bytesOf,List.mem_map] at hx;obtain ⟨b,-,rfl⟩:=hx;have:=b.toNat_lt;omega
theorem bytesOf_strOfNums (l:List Int) (h:∀ x ∈ l,0≤x∧x≤255):bytesOf (strOfNums l)=l:=by
 unfold bytesOf;rw [strOfNums_data,List.map_map];conv=>rhs;rw [← List.map_id l]
 apply List.map_congr_left;intro x hx;have:=h x hx;simp;omega
theorem strOfNums_bytesOf (s:ByteArray):strOfNums (bytesOf s)=s:=by
 apply ByteArray.ext;apply Array.toList_inj.1;rw [strOfNums_data];unfold bytesOf;rw [List.map_map,show ((fun n:Int=>UInt8.ofNat n.toNat) ∘ fun b:UInt8=>(b.toNat:Int))=id from funext fun b=>by simp,List.map_id]
theorem bytesOf_inj {s t:ByteArray} (h:bytesOf s=bytesOf t):s=t:=by
 rw [← strOfNums_bytesOf s,h,strOfNums_bytesOf]
theorem toList_nil {s:ByteArray}:s.toList = [] ↔ s.size=0:=by
 constructor
 ·intro h;have:=ByteArray.toList_eq s;rw [h] at this;have h2:=congrArg List.length this;rw [data_length] at h2;simpa using h2.symm
 ·intro h;rw [ByteArray.toList_eq];exact List.eq_nil_of_length_eq_zero (by rw [data_length];exact h)
theorem toList_inj {s t:ByteArray}:s.toList=t.toList ↔ s=t:=by
 constructor
 ·intro h;rw [ByteArray.toList_eq,ByteArray.toList_eq] at h;exact ByteArray.ext (Array.toList_inj.1 h)
 ·intro h;rw [h]
end Go.Proofs.YtkbjblhompkdkaaDoor.Pure
namespace Go.Proofs.YtkbjblhompkdkaaDoor.Pure
set_option linter.unusedSimpArgs false
open Go.RowKit Go.Proofs.YtkbjblhompkdkaaDoor.PA Go.Proofs.YtkbjblhompkdkaaDoorW.PrintWords Go.Proofs.YtkbjblhompkdkaaDoorW.PrintLast
theorem u64 (n:Int):IntKind.u64.wrap n=n % 18446744073709551616:=IntKind.wrap_u64 n
theorem num_signed_pos {u:Int} (h0:0≤u):num_signed.f u false=some (if u > 9223372036854775807 then (0,4) else (u,0)):=by
 unfold num_signed.f;rw [if_neg (by simp)];split
 ·rfl
 ·rw [w64 (by omega) (by omega)]
theorem num_signed_neg {u:Int} (h0:0≤u):num_signed.f u true=some (if u > 9223372036854775808 then (0,4) else (-u,0)):=by
 unfold num_signed.f;rw [if_pos rfl];split
 ·rfl
 ·rw [u64];congr 2;unfold wrap64;omega
theorem num_signed_fin (below:Bool) (v:Nat):num_signed.f (v:Int) below=some (finS below v):=by
 cases below with
 | true=>(rw [num_signed_neg (by omega)];simp only [finS,if_true];repeat' split);all_goals first|rfl|(exfalso;omega)
 | false=>(rw [num_signed_pos (by omega)];simp only [finS];rw [if_neg (show ¬ (false=true) by simp)];repeat' split);all_goals first|rfl|(exfalso;omega)
section
variable (s:ByteArray) (hs:s.size≤140737488351232)
include hs
theorem parse_loop (d:Nat):∀ (i cnt v:Nat) (below over:Bool) (u:Int),i≤s.size→s.size - i=d→cnt≤i→(0 < i ∨ ((bytesOf s).drop i).head? ≠ some 45) →
  over=decide (18446744073709551616≤v)→(v < 18446744073709551616→u=v)→0≤u→u < 18446744073709551616 →
  Ev (fun k=>num_Parse.l0 k s below (cnt:Int) over u (s.size:Int) (i:Int))
   (if allDig ((bytesOf s).drop i)∧(0 < cnt ∨ Digs (1 < s.size) ((bytesOf s).drop i)) then finS below (foldV v ((bytesOf s).drop i)) else (0,2)):=by
 induction d with
 | zero=>
  intro i cnt v below over u hi hd hc hm ho hu h0 h1;rw [bytes_end s (by omega)];refine Ev.step (f:=fun _=>if (cnt:Int)=0 then some (0,2) else if over=true then some (0,4) else (num_signed.f u below).bind fun b=>some (b.1,b.2)) (fun k=>?_) ?_
  ·simp only [num_Parse.l0];rw [if_neg (by omega)]
  ·by_cases hcz:cnt=0
   ·subst hcz;simp only [Int.natCast_zero,if_true];rw [if_neg (by simp [Digs])];exact Ev.now _
   ·rw [if_pos (show allDig []∧(0 < cnt ∨ Digs (1 < s.size) []) from ⟨by simp [allDig],.inl (by omega)⟩)];simp only [foldV,List.foldl_nil];rw [show (if (cnt:Int)=0 then some ((0:Int),(2:Int)) else if over=true then some (0,4) else (num_signed.f u below).bind fun b=>some (b.1,b.2))=(if over=true then some (0,4) else (num_signed.f u below).bind fun b=>some (b.1,b.2)) from if_neg (by omega)];by_cases hv:18446744073709551616≤v
    ·rw [ho,decide_eq_true hv,if_pos rfl];(have:finS below v=(0,4):=by unfold finS;cases below <;> simp <;> omega);rw [this];exact Ev.now _
    ·rw [ho,decide_eq_false hv,if_neg (by simp),hu (by omega),num_signed_fin];exact Ev.now _
 | succ d ih=>
  intro i cnt v below over u hi hd hc hm ho hu h0 h1;(have hlt:i < s.size:=by omega);have hb:=bt_range s (i:Int);rw [bytes_drop s hlt] at hm ⊢;generalize hcb:bt s (i:Int)=c at *
  refine Ev.step (f:=fun k=>num_Parse.j1 k s below (cnt:Int) over u c (s.size:Int) (i:Int) false) (fun k=>?_) ?_
  ·simp only [num_Parse.l0];rw [if_pos (by omega),if_pos (by omega),if_pos (by omega),hcb];by_cases h45:c=45
   ·rw [if_pos h45];have:((i:Int) == 0)=false:=by
     rw [beq_eq_false_iff_ne];rcases hm with h|h
     ·omega
     ·exact absurd (by simp [h45]) h
    rw [this]
   ·rw [if_neg h45]
  by_cases hz:c=48∧cnt=0∧1 < s.size
  ·obtain ⟨rfl,rfl,hz⟩:=hz;rw [if_neg (by simp [Digs,hz])];refine Ev.step (f:=fun k=>num_Parse.j2 k s below ((0:Nat):Int) over u 48 (s.size:Int) (i:Int) true) (fun k=>?_) ?_
   ·simp only [num_Parse.j1];rw [if_neg (by simp),if_pos trivial,if_pos (by simp),decide_eq_true (by omega)]
   ·refine Ev.step (f:=fun _=>some (0,2)) (fun k=>?_) (Ev.now _);simp only [num_Parse.j2];rw [if_pos trivial]
  refine Ev.step (f:=fun k=>num_Parse.j2 k s below (cnt:Int) over u c (s.size:Int) (i:Int) false) (fun k=>?_) ?_
  ·simp only [num_Parse.j1];rw [if_neg (by simp)];by_cases h48:c=48
   ·rw [if_pos h48];by_cases h0c:cnt=0
    ·rw [if_pos (by omega),decide_eq_false (by omega)]
    ·rw [if_neg (by omega)]
   ·rw [if_neg h48]
  by_cases hdig:48≤c∧c≤57
  ·(have hmod:(c - 48) % 256=c - 48:=by omega);(have hcn:wrap64 ((cnt:Int)+1)=((cnt+1:Nat):Int):=by unfold wrap64;omega);refine Ev.step (f:=fun k=>num_Parse.l0 k s below ((cnt+1:Nat):Int) (decide (18446744073709551616≤10 * v+(c - 48).toNat)) (IntKind.u64.wrap ((IntKind.u64.wrap (10 * u))+(c - 48))) (s.size:Int) ((i+1:Nat):Int)) (fun k=>?_) ?_
   ·simp only [num_Parse.j2];rw [if_neg (by simp),hmod,hcn,i_next hlt hs];have hov:over=false→decide (u > (18446744073709551615 - (c - 48)) / 10)=decide (18446744073709551616≤10 * v+(c - 48).toNat):=by
     intro h;rw [h] at ho;have hv:=of_decide_eq_false ho.symm;rw [hu (by omega),decide_eq_decide];omega
    have hov2:over=true→true=decide (18446744073709551616≤10 * v+(c - 48).toNat):=by
     intro h;rw [h] at ho;have hv:=of_decide_eq_true ho.symm;rw [eq_comm,decide_eq_true_iff];omega
    have both:(if over=true then num_Parse.l0 k s below ((cnt+1:Nat):Int) true (IntKind.u64.wrap ((IntKind.u64.wrap (10 * u))+(c - 48))) (s.size:Int) ((i+1:Nat):Int) else num_Parse.l0 k s below ((cnt+1:Nat):Int) (decide (u > (18446744073709551615 - (c - 48)) / 10)) (IntKind.u64.wrap ((IntKind.u64.wrap (10 * u))+(c - 48))) (s.size:Int) ((i+1:Nat):Int))
      = num_Parse.l0 k s below ((cnt+1:Nat):Int) (decide (18446744073709551616≤10 * v+(c - 48).toNat)) (IntKind.u64.wrap ((IntKind.u64.wrap (10 * u))+(c - 48))) (s.size:Int) ((i+1:Nat):Int):=by
     cases over with
     | true=>rw [if_pos rfl,← hov2 rfl]
     | false=>rw [if_neg (by simp),hov rfl]
    rw [both];by_cases h48:c=48
    ·rw [if_pos h48]
    ·rw [if_neg h48,if_pos (by omega),if_pos (by omega)]
   ·have:=ih (i+1) (cnt+1) (10 * v+(c - 48).toNat) below (decide (18446744073709551616≤10 * v+(c - 48).toNat)) (IntKind.u64.wrap ((IntKind.u64.wrap (10 * u))+(c - 48))) (by omega) (by omega) (by omega) (.inl (by omega)) rfl (fun hv=>by rw [hu (by omega)];simp only [u64];omega) (by rw [u64];omega) (by rw [u64];omega);have e:(if allDig (c :: (bytesOf s).drop (i+1))∧(0 < cnt ∨ Digs (1 < s.size) (c :: (bytesOf s).drop (i+1))) then finS below (foldV v (c :: (bytesOf s).drop (i+1))) else (0,2))
      = (if allDig ((bytesOf s).drop (i+1))∧(0 < cnt+1 ∨ Digs (1 < s.size) ((bytesOf s).drop (i+1))) then finS below (foldV (10 * v+(c - 48).toNat) ((bytesOf s).drop (i+1))) else (0,2)):=by
     by_cases ha:allDig ((bytesOf s).drop (i+1))
     ·have hc1:allDig (c :: (bytesOf s).drop (i+1))∧(0 < cnt ∨ Digs (1 < s.size) (c :: (bytesOf s).drop (i+1))):=by
       refine ⟨allDig_cons.2 ⟨hdig,ha⟩,?_⟩;by_cases h0c:cnt=0
       ·right;refine ⟨allDig_cons.2 ⟨hdig,ha⟩,by simp,fun h=>hz ?_⟩;simp at h;exact ⟨h.1,h0c,h.2⟩
       ·left;omega
      rw [if_pos hc1,if_pos ⟨ha,.inl (by omega)⟩];rfl
     ·rw [if_neg (fun h=>ha (allDig_cons.1 h.1).2),if_neg (fun h=>ha h.1)]
    rw [e];exact this
  ·rw [if_neg (fun h=>hdig (allDig_cons.1 h.1).1)];refine Ev.step (f:=fun _=>some (0,2)) (fun k=>?_) (Ev.now _);simp only [num_Parse.j2];rw [if_neg (by simp),if_neg (by omega)];by_cases h49:c ≥ 49
   ·rw [if_pos h49,if_neg (by omega)]
   ·rw [if_neg h49]
end
theorem num_Parse_ev (s:ByteArray) (hs:s.size≤140737488351232):Ev (fun k=>num_Parse.f k s) (parseS (bytesOf s)):=by
 unfold num_Parse.f parseS;rw [bytesOf_length];by_cases hm:(bytesOf s).head? = some 45
 ·rw [if_pos hm];have h0:0 < s.size:=by
   rcases Nat.eq_zero_or_pos s.size with h|h
   ·have:bytesOf s = []:=List.eq_nil_of_length_eq_zero (by rw [bytesOf_length];exact h);rw [this] at hm;simp at hm
   ·exact h
  have hd:=bytes_drop s h0;rw [List.drop_zero] at hd;(have hc:bt s ((0:Nat):Int)=45:=by rw [hd] at hm;simpa using hm);refine Ev.step (f:=fun k=>num_Parse.j1 k s false 0 false 0 45 (s.size:Int) 0 true) (fun k=>?_) ?_
  ·simp only [num_Parse.l0];rw [if_pos (by omega),if_pos (by omega),if_pos (by omega),show bt s 0=45 from hc,if_pos rfl];rfl
  refine Ev.step (f:=fun k=>num_Parse.l0 k s true ((0:Nat):Int) false 0 (s.size:Int) ((1:Nat):Int)) (fun k=>?_) ?_
  ·simp only [num_Parse.j1];rw [if_pos trivial,show wrap64 (0+1)=1 by unfold wrap64;omega];rfl
  have:=parse_loop s hs (s.size - 1) 1 0 0 true false 0 (by omega) rfl (by omega) (.inl (by omega)) (by simp) (fun _=>rfl) (by omega) (by omega);(have et:(bytesOf s).tail=(bytesOf s).drop 1:=by simp);rw [et];have e:(allDig ((bytesOf s).drop 1)∧(0 < 0 ∨ Digs (1 < s.size) ((bytesOf s).drop 1))) ↔ Digs (1 < s.size) ((bytesOf s).drop 1):=by
   constructor
   ·rintro ⟨_,h|h⟩
    ·omega
    ·exact h
   ·intro h;exact ⟨h.1,.inr h⟩
  simp only [e] at this;exact this
 ·rw [if_neg hm];have:=parse_loop s hs s.size 0 0 0 false false 0 (by omega) rfl (by omega) (.inr (by simpa using hm)) (by simp) (fun _=>rfl) (by omega) (by omega);rw [List.drop_zero] at this;have e:(allDig (bytesOf s)∧(0 < 0 ∨ Digs (1 < s.size) (bytesOf s))) ↔ Digs (1 < s.size) (bytesOf s):=by
   constructor
   ·rintro ⟨_,h|h⟩
    ·omega
    ·exact h
   ·intro h;exact ⟨h.1,.inr h⟩
  simp only [e] at this;exact this
end Go.Proofs.YtkbjblhompkdkaaDoor.Pure
namespace Go.Proofs.YtkbjblhompkdkaaDoor.Pure
set_option linter.unusedSimpArgs false
open Go.RowKit Go.Proofs.YtkbjblhompkdkaaDoor.PA Go.Proofs.YtkbjblhompkdkaaDoorW.PrintWords Go.Proofs.YtkbjblhompkdkaaDoorW.PrintLast
def hexR (o:Option Int):Int × Bool:=match o with|some v=>(v,true)|none=>(0,false)
theorem hexV_dig {g:Bool} {c:Int} (h:48≤c∧c≤57):hexV g c=some (c - 48):=by unfold hexV;rw [if_pos h]
theorem hexV_low {g:Bool} {c:Int} (h:97≤c∧c≤102):hexV g c=some (c - 87):=by unfold hexV;rw [if_neg (by omega),if_pos h]
theorem hexV_great {c:Int} (h:65≤c∧c≤70):hexV true c=some (c - 55):=by unfold hexV;rw [if_neg (by omega),if_neg (by omega),if_pos ⟨rfl,h⟩]
theorem hexV_not {c:Int} (h1:¬ (48≤c∧c≤57)) (h2:¬ (97≤c∧c≤102)):hexV false c=none:=by unfold hexV;rw [if_neg h1,if_neg h2,if_neg (by simp)]
theorem hexV_nott {c:Int} (h1:¬ (48≤c∧c≤57)) (h2:¬ (97≤c∧c≤102)) (h3:¬ (65≤c∧c≤70)):hexV true c=none:=by unfold hexV;rw [if_neg h1,if_neg h2,if_neg (fun h=>h3 h.2)]
theorem nibble_some (k:Nat) (c:Int) (h0:0≤c) (h1:c≤255):quote_nibble.f (k+1) c=some (hexR (hexV false c)):=by
 unfold quote_nibble.f;simp only [quote_nibble.j0,decide_eq_true_eq];by_cases a:48≤c∧c≤57
 ·rw [hexV_dig a,if_pos a.1,if_pos a.2,hexR,show (c - 48) % 256=c - 48 by omega]
 ·by_cases b:97≤c∧c≤102
  ·rw [hexV_low b,if_pos (by omega),if_neg (by omega),if_pos b.1,if_pos b.2,hexR,show (c - 97+10) % 256=c - 87 by omega]
  ·rw [hexV_not a b,hexR];(repeat' split);all_goals first|rfl|(exfalso;omega)|(exfalso;simp_all)
theorem either_some (k:Nat) (c:Int) (h0:0≤c) (h1:c≤255):quote_either.f (k+1) c=some (hexR (hexV true c)):=by
 unfold quote_either.f;by_cases a:65≤c∧c≤70
 ·simp only [show c ≥ 65 by omega,a.2,if_true,show (c+32) % 256=c+32 by omega];rw [nibble_some k (c+32) (by omega) (by omega)];have e:hexV true c=hexV false (c+32):=by
   rw [hexV_great a,hexV_low (by omega)];congr 1;omega
  rw [e];rfl
 ·have e:hexV true c=hexV false c:=by
   unfold hexV;rw [if_neg (show ¬ (true=true∧65≤c∧c≤70) from fun h=>a h.2),if_neg (show ¬ (false=true∧65≤c∧c≤70) by simp)]
  rw [e,nibble_some k c h0 h1];by_cases c1:c ≥ 65
  ·simp only [c1,if_true,show ¬ c≤70 by omega,if_false];rfl
  ·simp only [c1,if_false];rfl
theorem hexV_range {g:Bool} {c v:Int} (h:hexV g c=some v):0≤v∧v < 16:=by
 unfold hexV at h;split at h
 ·have:=Option.some.inj h;omega
 ·split at h
  ·have:=Option.some.inj h;omega
  ·split at h
   ·have:=Option.some.inj h;omega
   ·cases h
section
variable (s:ByteArray) (hs:s.size≤140737488351232)
include hs
def pairR (at_:Nat) (r:Int ⊕ (Nat × Int)):Int × Int × Int:=match r with|.inl x=>(x,((at_+2:Nat):Int),0)|.inr (p,e)=>(0,(p:Int),e)
theorem pair_ev (i:Nat) (hi:i≤s.size):Ev (fun k=>quote_pair.f k s (i:Int)) (pairR i (pairL s.size ((bytesOf s).drop i) i)):=by
 unfold quote_pair.f;(have h2:wrap64 ((i:Int)+2)=((i+2:Nat):Int):=by rw [w64 (by omega) (by omega)];omega);refine Ev.succ (Ev.succ ?_);simp only [quote_pair.l0,h2,show (i:Int) < ((i+2:Nat):Int) by omega,if_true];by_cases h0:i < s.size
 ·rw [bytes_drop s h0];have hb:=bt_range s (i:Int);simp only [show ¬ (i:Int) ≥ (s.size:Int) by omega,if_false,show (0:Int)≤(i:Int) by omega,show (i:Int) < (s.size:Int) by omega,if_true,either_some _ _ hb.1 hb.2,Option.bind_some,i_next h0 hs];by_cases h1:i+1 < s.size
  ·rw [bytes_drop s h1];have hb1:=bt_range s ((i+1:Nat):Int);simp only [show ((i+1:Nat):Int) < ((i+2:Nat):Int) by omega,show ¬ ((i+1:Nat):Int) ≥ (s.size:Int) by omega,show (0:Int)≤((i+1:Nat):Int) by omega,show ((i+1:Nat):Int) < (s.size:Int) by omega,if_true,if_false];cases hx:hexV true (bt s (i:Int)) with
   | none=>
    simp only [hexR,pairL,hx,pairR];exact Ev.now _
   | some x=>
    have hxr:=hexV_range hx;refine Ev.succ ?_;simp only [hexR,pairL,hx,if_true,either_some _ _ hb1.1 hb1.2,Option.bind_some];cases hy:hexV true (bt s ((i+1:Nat):Int)) with
    | none=>
     simp only [hexR,pairR];exact Ev.now _
    | some y=>
     have hyr:=hexV_range hy;refine Ev.succ ?_;simp only [hexR,pairR,if_true,i_next h1 hs,quote_pair.l0,h2,show ¬ ((i+1+1:Nat):Int) < ((i+2:Nat):Int) by omega,if_false];refine Ev.const ?_;have e1:Go.bits .or .u8 (0 * 16 % 256) x=x:=by
      rw [show (0 * 16 % 256:Int)=0 by omega,bits_join .u8 8 (by decide) wraps_u8 4 0 x (by omega) (by omega) (by omega) (by omega) (by omega) (by omega)];omega
     have e2:Go.bits .or .u8 (x * 16 % 256) y=16 * x+y:=by
      rw [show x * 16 % 256=x * 16 by omega,bits_join .u8 8 (by decide) wraps_u8 4 _ y (by omega) (by omega) (by omega) (by omega) (by omega) (by omega)];omega
     rw [e1,e2]
  ·rw [bytes_end s (by omega)];have hb1:=bt_range s (i:Int);cases hx:hexV true (bt s (i:Int)) with
   | none=>
    simp only [hexR,pairL,hx,pairR];exact Ev.now _
   | some x=>
    simp only [hexR,pairL,hx,pairR,if_true,show ((i+1:Nat):Int) < ((i+2:Nat):Int) by omega,show ((i+1:Nat):Int) ≥ (s.size:Int) by omega];exact Ev.now _
 ·rw [bytes_end s (by omega)];simp only [show (i:Int) ≥ (s.size:Int) by omega,if_true,pairL,pairR];exact Ev.now _
end
end Go.Proofs.YtkbjblhompkdkaaDoor.Pure
namespace Go.Proofs.YtkbjblhompkdkaaDoor.Pure
set_option linter.unusedSimpArgs false
open Go.RowKit Go.Proofs.YtkbjblhompkdkaaDoor.PA Go.Proofs.YtkbjblhompkdkaaDoorW.PrintWords Go.Proofs.YtkbjblhompkdkaaDoorW.PrintLast
def resU (r:List Int × Nat × Int):ByteArray × Int × Int:=(strOfNums r.1,(r.2.1:Int),r.2.2)
section
variable (s:ByteArray) (hs:s.size≤140737488351232)
include hs
theorem unquote_loop (d:Nat):∀ (i:Nat) (acc:List Int),i≤s.size→s.size - i=d→acc.length≤i →
  Ev (fun k=>quote_Unquote.l0 k s acc (i:Int)) (resU (unqL s.size ((bytesOf s).drop i) i acc)):=by
 induction d using Nat.strongRecOn with
 | _ d ih=>
 intro i acc hi hd ha;refine Ev.succ ?_;simp only [quote_Unquote.l0];by_cases hlt:i < s.size
 ·have hb:=bt_range s (i:Int);have hn:=i_next hlt hs;rw [bytes_drop s hlt];simp only [show (i:Int) < (s.size:Int) by omega,show (0:Int)≤(i:Int) by omega,if_true,hn,show acc.length < 140737488355328 by omega];by_cases h34:bt s (i:Int)=34
  ·rw [h34,unqL_mark];simp only [if_true];exact Ev.now _
  simp only [h34,if_false];by_cases h32:bt s (i:Int) < 32
  ·rw [unqL_low _ _ _ _ h32];simp only [h32,if_true];exact Ev.now _
  simp only [h32,if_false];by_cases h92:bt s (i:Int)=92
  ·rw [h92];simp only [if_true];by_cases h1:i+1 < s.size
   ·have hb1:=bt_range s ((i+1:Nat):Int);rw [bytes_drop s h1];simp only [show ¬ ((i+1:Nat):Int) ≥ (s.size:Int) by omega,show (0:Int)≤((i+1:Nat):Int) by omega,show ((i+1:Nat):Int) < (s.size:Int) by omega,if_true,if_false,i_next h1 hs];by_cases h120:bt s ((i+1:Nat):Int)=120
    ·rw [h120,unqL_hex];simp only [if_true];refine Ev.bind (pair_ev s hs (i+1+1) (by omega)) ?_;cases hp:pairL s.size ((bytesOf s).drop (i+1+1)) (i+2) with
     | inl x=>
      have hp':pairL s.size ((bytesOf s).drop (i+1+1)) (i+1+1) = .inl x:=hp;simp only [hp',pairR,if_true];have hsz:i+4≤s.size:=by
       rcases Nat.lt_or_ge s.size (i+4) with h|h
       ·exfalso;by_cases h2:i+2 < s.size
        ·rw [bytes_drop s h2,bytes_end s (show s.size≤i+1+1+1 by omega)] at hp;simp only [pairL] at hp;split at hp <;> cases hp
        ·rw [bytes_end s (by omega)] at hp;cases hp
       ·exact h
      have:=ih (s.size - (i+4)) (by omega) (i+4) (acc++[x]) hsz rfl (by simp;omega);rw [List.drop_drop];exact this
     | inr q=>
      obtain ⟨p,e⟩:=q;have hp':pairL s.size ((bytesOf s).drop (i+1+1)) (i+1+1) = .inr (p,e):=hp;have he:e ≠ 0:=by
       intro h0;subst h0;rcases hl:(bytesOf s).drop (i+1+1) with _|⟨a,_|⟨b,r⟩⟩ <;> rw [hl] at hp <;> simp only [pairL] at hp
       ·simp at hp
       ·split at hp <;> simp at hp
       ·split at hp
        ·simp at hp
        ·split at hp <;> simp at hp
      simp only [hp',pairR,he,if_false];exact Ev.now _
    ·rw [unqL_let _ _ _ _ h120];simp only [h120,if_false,quote_byLetter.f,Option.bind_some];by_cases hl:(byLetterS (bt s ((i+1:Nat):Int))).2=true
     ·simp only [hl,if_true];exact ih (s.size - (i+2)) (by omega) (i+2) (acc++[(byLetterS (bt s ((i+1:Nat):Int))).1]) (by omega) rfl (by simp;omega)
     ·simp only [hl,if_false];exact Ev.now _
   ·rw [bytes_end s (show s.size≤i+1 by omega),unqL_end];simp only [show ((i+1:Nat):Int) ≥ (s.size:Int) by omega,if_true];exact Ev.now _
  ·rw [unqL_plain _ _ _ _ h34 h32 h92];simp only [h92,if_false];exact ih (s.size - (i+1)) (by omega) (i+1) (acc++[bt s (i:Int)]) (by omega) rfl (by simp;omega)
 ·rw [bytes_end s (by omega),unqL_nil];simp only [show ¬ (i:Int) < (s.size:Int) by omega,if_false];exact Ev.now _
theorem unquote_ev:Ev (fun k=>quote_Unquote.f k s) (resU (unquoteL (bytesOf s))):=by
 unfold quote_Unquote.f;by_cases h0:s.size=0
 ·rw [bytes_nil h0];simp only [toList_nil.2 h0,if_true];exact Ev.now _
 ·have hd:=bytes_drop s (show 0 < s.size by omega);rw [List.drop_zero] at hd;have hn:¬ s.toList = []:=fun h=>h0 (toList_nil.1 h);simp only [hn,if_false,show (0:Int) < (s.size:Int) by omega,if_true,show (0:Int)≤(s.size:Int) by omega,show (s.size:Int).toNat≤281474976710656 by omega];unfold unquoteL;rw [hd];simp only [];by_cases h34:bt s ((0:Nat):Int)=34
  ·simp only [h34,show bt s 0=34 from h34,if_true];have:=unquote_loop s hs (s.size - 1) 1 [] (by omega) rfl (by simp);(have el:((bytesOf s).drop (0+1)).length+1=s.size:=by rw [List.length_drop,bytesOf_length];omega);rw [el];exact this
  ·simp only [h34,show ¬ bt s 0=34 from h34,if_false];exact Ev.now _
end
theorem unqL_bytes (n:Nat):∀ (m:Nat) (l:List Int),l.length≤m→∀ (p:Nat) (acc:List Int),(∀ x ∈ l,0≤x∧x≤255)→(∀ x ∈ acc,0≤x∧x≤255) →
  (∀ x ∈ (unqL n l p acc).1,0≤x∧x≤255)∧(unqL n l p acc).1.length≤acc.length+l.length:=by
 intro m;induction m with
 | zero=>
  intro l hl p acc _ _;rw [List.eq_nil_of_length_eq_zero (show l.length=0 by omega),unqL_nil];simp
 | succ m ih=>
  intro l hl p acc hb ha;have snoc:∀ (x:Int) (acc:List Int),0≤x→x≤255→(∀ x ∈ acc,0≤x∧x≤255)→∀ y ∈ acc++[x],0≤y∧y≤255:=by
   intro x acc h0 h1 h y hy;rcases List.mem_append.1 hy with hy|hy
   ·exact h y hy
   ·simp at hy;subst hy;exact ⟨h0,h1⟩
  match l,hl with
  | [],_=>rw [unqL_nil];simp
  | c :: r,hl=>
   rw [List.length_cons] at hl;have hc:=hb c (by simp);have hr:∀ x ∈ r,0≤x∧x≤255:=fun x hx=>hb x (by simp [hx]);by_cases h34:c=34
   ·subst h34;rw [unqL_mark];exact ⟨ha,by simp⟩
   by_cases h32:c < 32
   ·rw [unqL_low _ _ _ _ h32];simp
   by_cases h92:c=92
   ·subst h92;match r,hr,hl with
    | [],_,_=>rw [unqL_end];simp
    | d :: r2,hr,hl=>
     rw [List.length_cons] at hl;have hd:=hr d (by simp);have hr2:∀ x ∈ r2,0≤x∧x≤255:=fun x hx=>hr x (by simp [hx]);by_cases h120:d=120
     ·subst h120;rw [unqL_hex];cases hp:pairL n r2 (p+2) with
      | inl x=>
       simp only [];match r2,hr2,hp,hl with
       | [],_,hp,_=>cases hp
       | [a],_,hp,_=>simp only [pairL] at hp;split at hp <;> cases hp
       | a :: b :: r4,hr2,hp,hl=>
        simp only [pairL] at hp;cases hu:hexV true a with
        | none=>rw [hu] at hp;cases hp
        | some u=>
         cases hv:hexV true b with
         | none=>rw [hu,hv] at hp;cases hp
         | some v=>
          rw [hu,hv] at hp;have:=hexV_range hu;have:=hexV_range hv;have e:16 * u+v=x:=Sum.inl.inj hp;have:=ih r4 (by simp at hl;omega) (p+4) (acc++[x]) (fun x hx=>hr2 x (by simp [hx])) (snoc x acc (by omega) (by omega) ha);simp only [List.drop_succ_cons,List.drop_zero];refine ⟨this.1,?_⟩;have h2:=this.2;simp at h2 ⊢;omega
      | inr q=>simp
     ·rw [unqL_let _ _ _ _ h120];by_cases hl2:(byLetterS d).2=true
      ·rw [if_pos hl2];have hbl:0≤(byLetterS d).1∧(byLetterS d).1≤255:=by
        unfold byLetterS;(repeat' split);all_goals (simp only [];omega)
       have:=ih r2 (by omega) (p+2) (acc++[(byLetterS d).1]) hr2 (snoc _ acc hbl.1 hbl.2 ha);refine ⟨this.1,?_⟩;have h2:=this.2;simp at h2 ⊢;omega
      ·rw [if_neg hl2];simp
   ·rw [unqL_plain _ _ _ _ h34 h32 h92];have:=ih r (by omega) (p+1) (acc++[c]) hr (snoc c acc hc.1 hc.2 ha);refine ⟨this.1,?_⟩;have h2:=this.2;simp at h2 ⊢;omega
theorem unquoteL_bytes (l:List Int) (h:∀ x ∈ l,0≤x∧x≤255):(∀ x ∈ (unquoteL l).1,0≤x∧x≤255)∧(unquoteL l).1.length≤l.length:=by
 unfold unquoteL;match l with
 | []=>simp
 | c :: r=>
  simp only [];split
  ·have:=unqL_bytes (r.length+1) r.length r (Nat.le_refl _) 1 [] (fun x hx=>h x (by simp [hx])) (by simp);refine ⟨this.1,?_⟩;have h2:=this.2;simp at h2 ⊢;omega
  ·simp
end Go.Proofs.YtkbjblhompkdkaaDoor.Pure

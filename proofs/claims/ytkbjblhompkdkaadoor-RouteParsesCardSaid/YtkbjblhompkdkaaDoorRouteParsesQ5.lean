/- YtkbjblhompkdkaaDoorRouteParsesQ5: LexNextW, LexAllW, LexRow -/
import Derived.Test.YtkbjblhompkdkaaDoorRouteParsesQ2
import Derived.Test.YtkbjblhompkdkaaDoorRouteParsesQ4
import Derived.Test.YtkbjblhompkdkaaDoorRows
import Derived.Test.YtkbjblhompkdkaaDoorCards
import Derived.Test.YtkbjblhompkdkaaDoorTie
import Derived.SizedLaws
import Derived.ChangeSlices
import Derived.FnData
import Derived.WalkKit
import Derived.ProofKit
import Derived.OpenShut
import Derived.ShutString
import Derived.ChangeOld
import Derived.Below
import Derived.ChangeSame
import Derived.ChangeVars
import Derived.JoinedOf
import Derived.RowKitTokens
import Derived.LaidLaws
import Derived.LaidHandle
import Derived.Stop.Joined
import Derived.SevenTiedAt
namespace Go.Proofs.YtkbjblhompkdkaaDoor
open Go.RowKit Go.Proofs.YtkbjblhompkdkaaDoor.PA Go.Proofs.YtkbjblhompkdkaaDoorW.PrintWords Go.Proofs.YtkbjblhompkdkaaDoorW.PrintLast
set_option linter.unusedVariables false
set_option linter.unusedSimpArgs false
def signsB:List ByteArray:=[(⟨#[46,46]⟩:ByteArray),(⟨#[61,61]⟩:ByteArray),(⟨#[33,61]⟩:ByteArray),(⟨#[60,61]⟩:ByteArray),(⟨#[62,61]⟩:ByteArray),(⟨#[38,38]⟩:ByteArray),(⟨#[124,124]⟩:ByteArray),(⟨#[91]⟩:ByteArray),(⟨#[93]⟩:ByteArray),(⟨#[123]⟩:ByteArray),(⟨#[125]⟩:ByteArray),(⟨#[60]⟩:ByteArray),(⟨#[62]⟩:ByteArray),(⟨#[40]⟩:ByteArray),(⟨#[41]⟩:ByteArray),(⟨#[44]⟩:ByteArray),(⟨#[58]⟩:ByteArray),(⟨#[46]⟩:ByteArray),(⟨#[42]⟩:ByteArray),(⟨#[63]⟩:ByteArray),(⟨#[33]⟩:ByteArray),(⟨#[36]⟩:ByteArray),(⟨#[64]⟩:ByteArray)]
def Signs (w:World):Prop:=∀ i x,signsB[i]? = some x→w.cell? ⟨0,i,none⟩=some (.string x)
theorem Signs.lt {w:World} (h:Signs w):0 < w.heap.size:=lt_of_cell (h 0 _ rfl)
theorem Signs.below {w w':World} {n:Nat} (h:Signs w) (hb:Below n w w') (hn:w.heap.size≤n):Signs w':=fun i x hx=>(hb.cell (by have:=h.lt;show 0 < n;omega)).trans (h i x hx)
theorem signs_bytes:signsB.map bytesOf=Pure.signsL:=by decide +kernel
def tableV:Value:=.agg #[.string (⟨#[46,46]⟩:ByteArray),.string (⟨#[61,61]⟩:ByteArray),.string (⟨#[33,61]⟩:ByteArray),.string (⟨#[60,61]⟩:ByteArray),.string (⟨#[62,61]⟩:ByteArray),.string (⟨#[38,38]⟩:ByteArray),.string (⟨#[124,124]⟩:ByteArray),.string (⟨#[91]⟩:ByteArray),.string (⟨#[93]⟩:ByteArray),.string (⟨#[123]⟩:ByteArray),.string (⟨#[125]⟩:ByteArray),.string (⟨#[60]⟩:ByteArray),.string (⟨#[62]⟩:ByteArray),.string (⟨#[40]⟩:ByteArray),.string (⟨#[41]⟩:ByteArray),.string (⟨#[44]⟩:ByteArray),.string (⟨#[58]⟩:ByteArray),.string (⟨#[46]⟩:ByteArray),.string (⟨#[42]⟩:ByteArray),.string (⟨#[63]⟩:ByteArray),.string (⟨#[33]⟩:ByteArray),.string (⟨#[36]⟩:ByteArray),.string (⟨#[64]⟩:ByteArray)]
theorem table_at0 (w:World):(Instr.index 81 tableV (.int .i64 0)).run Tryd.prog w = .ok (.string (⟨#[46,46]⟩:ByteArray)) w:=by kernel_rfl
theorem table_at1 (w:World):(Instr.index 81 tableV (.int .i64 1)).run Tryd.prog w = .ok (.string (⟨#[61,61]⟩:ByteArray)) w:=by kernel_rfl
theorem table_at2 (w:World):(Instr.index 81 tableV (.int .i64 2)).run Tryd.prog w = .ok (.string (⟨#[33,61]⟩:ByteArray)) w:=by kernel_rfl
theorem table_at3 (w:World):(Instr.index 81 tableV (.int .i64 3)).run Tryd.prog w = .ok (.string (⟨#[60,61]⟩:ByteArray)) w:=by kernel_rfl
theorem table_at4 (w:World):(Instr.index 81 tableV (.int .i64 4)).run Tryd.prog w = .ok (.string (⟨#[62,61]⟩:ByteArray)) w:=by kernel_rfl
theorem table_at5 (w:World):(Instr.index 81 tableV (.int .i64 5)).run Tryd.prog w = .ok (.string (⟨#[38,38]⟩:ByteArray)) w:=by kernel_rfl
theorem table_at6 (w:World):(Instr.index 81 tableV (.int .i64 6)).run Tryd.prog w = .ok (.string (⟨#[124,124]⟩:ByteArray)) w:=by kernel_rfl
theorem table_at7 (w:World):(Instr.index 81 tableV (.int .i64 7)).run Tryd.prog w = .ok (.string (⟨#[91]⟩:ByteArray)) w:=by kernel_rfl
theorem table_at8 (w:World):(Instr.index 81 tableV (.int .i64 8)).run Tryd.prog w = .ok (.string (⟨#[93]⟩:ByteArray)) w:=by kernel_rfl
theorem table_at9 (w:World):(Instr.index 81 tableV (.int .i64 9)).run Tryd.prog w = .ok (.string (⟨#[123]⟩:ByteArray)) w:=by kernel_rfl
theorem table_at10 (w:World):(Instr.index 81 tableV (.int .i64 10)).run Tryd.prog w = .ok (.string (⟨#[125]⟩:ByteArray)) w:=by kernel_rfl
theorem table_at11 (w:World):(Instr.index 81 tableV (.int .i64 11)).run Tryd.prog w = .ok (.string (⟨#[60]⟩:ByteArray)) w:=by kernel_rfl
theorem table_at12 (w:World):(Instr.index 81 tableV (.int .i64 12)).run Tryd.prog w = .ok (.string (⟨#[62]⟩:ByteArray)) w:=by kernel_rfl
theorem table_at13 (w:World):(Instr.index 81 tableV (.int .i64 13)).run Tryd.prog w = .ok (.string (⟨#[40]⟩:ByteArray)) w:=by kernel_rfl
theorem table_at14 (w:World):(Instr.index 81 tableV (.int .i64 14)).run Tryd.prog w = .ok (.string (⟨#[41]⟩:ByteArray)) w:=by kernel_rfl
theorem table_at15 (w:World):(Instr.index 81 tableV (.int .i64 15)).run Tryd.prog w = .ok (.string (⟨#[44]⟩:ByteArray)) w:=by kernel_rfl
theorem table_at16 (w:World):(Instr.index 81 tableV (.int .i64 16)).run Tryd.prog w = .ok (.string (⟨#[58]⟩:ByteArray)) w:=by kernel_rfl
theorem table_at17 (w:World):(Instr.index 81 tableV (.int .i64 17)).run Tryd.prog w = .ok (.string (⟨#[46]⟩:ByteArray)) w:=by kernel_rfl
theorem table_at18 (w:World):(Instr.index 81 tableV (.int .i64 18)).run Tryd.prog w = .ok (.string (⟨#[42]⟩:ByteArray)) w:=by kernel_rfl
theorem table_at19 (w:World):(Instr.index 81 tableV (.int .i64 19)).run Tryd.prog w = .ok (.string (⟨#[63]⟩:ByteArray)) w:=by kernel_rfl
theorem table_at20 (w:World):(Instr.index 81 tableV (.int .i64 20)).run Tryd.prog w = .ok (.string (⟨#[33]⟩:ByteArray)) w:=by kernel_rfl
theorem table_at21 (w:World):(Instr.index 81 tableV (.int .i64 21)).run Tryd.prog w = .ok (.string (⟨#[36]⟩:ByteArray)) w:=by kernel_rfl
theorem table_at22 (w:World):(Instr.index 81 tableV (.int .i64 22)).run Tryd.prog w = .ok (.string (⟨#[64]⟩:ByteArray)) w:=by kernel_rfl
theorem table_at (i:Nat) (hi:i < 23) (x:ByteArray) (h:signsB[i]? = some x) (w:World):(Instr.index 81 tableV (.int .i64 (i:Int))).run Tryd.prog w = .ok (.string x) w:=by
 match i,hi with
 | 0,_=>obtain rfl:=Option.some.inj ((show signsB[0]? = some (⟨#[46,46]⟩:ByteArray) from rfl).symm.trans h);exact table_at0 w
 | 1,_=>obtain rfl:=Option.some.inj ((show signsB[1]? = some (⟨#[61,61]⟩:ByteArray) from rfl).symm.trans h);exact table_at1 w
 | 2,_=>obtain rfl:=Option.some.inj ((show signsB[2]? = some (⟨#[33,61]⟩:ByteArray) from rfl).symm.trans h);exact table_at2 w
 | 3,_=>obtain rfl:=Option.some.inj ((show signsB[3]? = some (⟨#[60,61]⟩:ByteArray) from rfl).symm.trans h);exact table_at3 w
 | 4,_=>obtain rfl:=Option.some.inj ((show signsB[4]? = some (⟨#[62,61]⟩:ByteArray) from rfl).symm.trans h);exact table_at4 w
 | 5,_=>obtain rfl:=Option.some.inj ((show signsB[5]? = some (⟨#[38,38]⟩:ByteArray) from rfl).symm.trans h);exact table_at5 w
 | 6,_=>obtain rfl:=Option.some.inj ((show signsB[6]? = some (⟨#[124,124]⟩:ByteArray) from rfl).symm.trans h);exact table_at6 w
 | 7,_=>obtain rfl:=Option.some.inj ((show signsB[7]? = some (⟨#[91]⟩:ByteArray) from rfl).symm.trans h);exact table_at7 w
 | 8,_=>obtain rfl:=Option.some.inj ((show signsB[8]? = some (⟨#[93]⟩:ByteArray) from rfl).symm.trans h);exact table_at8 w
 | 9,_=>obtain rfl:=Option.some.inj ((show signsB[9]? = some (⟨#[123]⟩:ByteArray) from rfl).symm.trans h);exact table_at9 w
 | 10,_=>obtain rfl:=Option.some.inj ((show signsB[10]? = some (⟨#[125]⟩:ByteArray) from rfl).symm.trans h);exact table_at10 w
 | 11,_=>obtain rfl:=Option.some.inj ((show signsB[11]? = some (⟨#[60]⟩:ByteArray) from rfl).symm.trans h);exact table_at11 w
 | 12,_=>obtain rfl:=Option.some.inj ((show signsB[12]? = some (⟨#[62]⟩:ByteArray) from rfl).symm.trans h);exact table_at12 w
 | 13,_=>obtain rfl:=Option.some.inj ((show signsB[13]? = some (⟨#[40]⟩:ByteArray) from rfl).symm.trans h);exact table_at13 w
 | 14,_=>obtain rfl:=Option.some.inj ((show signsB[14]? = some (⟨#[41]⟩:ByteArray) from rfl).symm.trans h);exact table_at14 w
 | 15,_=>obtain rfl:=Option.some.inj ((show signsB[15]? = some (⟨#[44]⟩:ByteArray) from rfl).symm.trans h);exact table_at15 w
 | 16,_=>obtain rfl:=Option.some.inj ((show signsB[16]? = some (⟨#[58]⟩:ByteArray) from rfl).symm.trans h);exact table_at16 w
 | 17,_=>obtain rfl:=Option.some.inj ((show signsB[17]? = some (⟨#[46]⟩:ByteArray) from rfl).symm.trans h);exact table_at17 w
 | 18,_=>obtain rfl:=Option.some.inj ((show signsB[18]? = some (⟨#[42]⟩:ByteArray) from rfl).symm.trans h);exact table_at18 w
 | 19,_=>obtain rfl:=Option.some.inj ((show signsB[19]? = some (⟨#[63]⟩:ByteArray) from rfl).symm.trans h);exact table_at19 w
 | 20,_=>obtain rfl:=Option.some.inj ((show signsB[20]? = some (⟨#[33]⟩:ByteArray) from rfl).symm.trans h);exact table_at20 w
 | 21,_=>obtain rfl:=Option.some.inj ((show signsB[21]? = some (⟨#[36]⟩:ByteArray) from rfl).symm.trans h);exact table_at21 w
 | 22,_=>obtain rfl:=Option.some.inj ((show signsB[22]? = some (⟨#[64]⟩:ByteArray) from rfl).symm.trans h);exact table_at22 w
theorem table_load (w:World) (h:Signs w):(loadVar 81 ⟨0,0,none⟩).run Tryd.prog w = .ok tableV w:=by
 have h0:=h 0 _ rfl;have h1:=h 1 _ rfl;have h2:=h 2 _ rfl;have h3:=h 3 _ rfl;have h4:=h 4 _ rfl;have h5:=h 5 _ rfl;have h6:=h 6 _ rfl;have h7:=h 7 _ rfl;have h8:=h 8 _ rfl;have h9:=h 9 _ rfl;have h10:=h 10 _ rfl;have h11:=h 11 _ rfl;have h12:=h 12 _ rfl;have h13:=h 13 _ rfl;have h14:=h 14 _ rfl;have h15:=h 15 _ rfl;have h16:=h 16 _ rfl;have h17:=h 17 _ rfl;have h18:=h 18 _ rfl;have h19:=h 19 _ rfl;have h20:=h 20 _ rfl;have h21:=h 21 _ rfl;have h22:=h 22 _ rfl;unfold tableV;simp [loadVar,isAgg,underlying,Tryd.underlying81,Result.andThen,loadCells,sizeOf,show Tryd.t81.size=23 from rfl,loadCellsFrom,Addr.add, *]
theorem table_run (a:Act) (o:Oper) (ho:o.op = .load 81 (.global 0)) (w:World) (h:Signs w):(execOp a.eval o).run Tryd.prog w = .ok (.value tableV) w:=by
 have h1:=table_load w h;simp [execOp,ho,Instr.loadAt,Act.eval,Instr.sureAddr,Result.andThen,h1]
def tokV (t:Pure.Tok):Value:=.agg #[.int .i64 t.kind,.int .i64 (t.at_:Int),.int .i64 (t.end_:Int),.int .i64 t.n,.string (strOfNums t.text)]
def tok0V:Value:=.agg #[.int .i64 0,.int .i64 0,.int .i64 0,.int .i64 0,.string ⟨#[]⟩]
def NextPost (r:Pure.Tok ⊕ (Nat × Int)) (e:Ending) (w':World):Prop:=
 match r with
 | .inl t=>e = .returned (.tuple #[tokV t,.nilIface])
 | .inr (p,c)=>∃ v,e = .returned (.tuple #[tok0V,v])∧Err w' v [(p:Int)] (some c)
def signR (p:Nat) (l:List Int):Pure.Tok ⊕ (Nat × Int):=match Pure.signAt l with
 | some x=>.inl ⟨1,p,p+x.length,0,x⟩
 | none=>.inr (p,2)
theorem put5 {W:World} {g:Nat} {t:TypeId} {z0 z1 z2 z3 z4:Value} (a b c d e:Value) (h:W.heap[g]? = some (.cells #[z0,z1,z2,z3,z4] t (0,0))) :
  (((((W.setCell ⟨g,0,none⟩ a).setCell ⟨g,1,none⟩ b).setCell ⟨g,2,none⟩ c).setCell ⟨g,3,none⟩ d).setCell ⟨g,4,none⟩ e).heap[g]? = some (.cells #[a,b,c,d,e] t (0,0)):=
 blk_put (cs:=#[a,b,c,d,z4]) (blk_put (cs:=#[a,b,c,z3,z4]) (blk_put (cs:=#[a,b,z2,z3,z4]) (blk_put (cs:=#[a,z1,z2,z3,z4]) (blk_put h 0 a rfl) 1 b rfl) 2 c rfl) 3 d rfl) 4 e rfl
theorem below5 {w W:World} {g:Nat} (a b c d e:Value) (h:Below w.heap.size w W) (hg:w.heap.size≤g) :
  Below w.heap.size w (((((W.setCell ⟨g,0,none⟩ a).setCell ⟨g,1,none⟩ b).setCell ⟨g,2,none⟩ c).setCell ⟨g,3,none⟩ d).setCell ⟨g,4,none⟩ e):=
 below_set (below_set (below_set (below_set (below_set h hg) hg) hg) hg) hg
theorem cell_far (w:World) (g j:Nat) (u:Value) {b i:Nat} (hne:b ≠ g):(w.setCell ⟨g,j,none⟩ u).cell? ⟨b,i,none⟩=w.cell? ⟨b,i,none⟩:=by
 have h:=Below.heap_setCell w ⟨g,j,none⟩ u b hne;simp only [World.cell?,h]
theorem Err.far {w:World} {v:Value} {p c:Int} {g:Nat} (j:Nat) (u:Value) (h:Err w v [p] (some c)) {k:IntKind} {n:Int} (hg:w.cell? ⟨g,1,none⟩=some (.int k n)):Err (w.setCell ⟨g,j,none⟩ u) v [p] (some c):=by
 obtain ⟨b,x,rfl,h1,h2,h3⟩:=h;have hx:x = .iface 29 (.int .i64 c):=h3;have hne:b ≠ g:=by
  rintro rfl;rw [hg] at h2;rw [hx] at h2;simp at h2
 exact ⟨b,x,rfl,by rw [cell_far _ _ _ _ hne];exact h1,by rw [cell_far _ _ _ _ hne];exact h2,h3⟩
theorem Err.put5 {W:World} {v:Value} {p q:Int} {g:Nat} {t:TypeId} {z0 z2 z3 z4:Value} {k k':IntKind} {n m:Int} (a c d e:Value) (he:Err W v [p] (some q)) (h:W.heap[g]? = some (.cells #[z0,.int k n,z2,z3,z4] t (0,0))) :
  Err (((((W.setCell ⟨g,0,none⟩ a).setCell ⟨g,1,none⟩ (.int k' m)).setCell ⟨g,2,none⟩ c).setCell ⟨g,3,none⟩ d).setCell ⟨g,4,none⟩ e) v [p] (some q):=by
 have b0:(W.setCell ⟨g,0,none⟩ a).heap[g]? = some (.cells #[a,.int k n,z2,z3,z4] t (0,0)):=blk_put h 0 a rfl;have b1:((W.setCell ⟨g,0,none⟩ a).setCell ⟨g,1,none⟩ (.int k' m)).heap[g]? = some (.cells #[a,.int k' m,z2,z3,z4] t (0,0)):=blk_put b0 1 _ rfl;have b2:(((W.setCell ⟨g,0,none⟩ a).setCell ⟨g,1,none⟩ (.int k' m)).setCell ⟨g,2,none⟩ c).heap[g]? = some (.cells #[a,.int k' m,c,z3,z4] t (0,0)):=blk_put b1 2 _ rfl;have b3:((((W.setCell ⟨g,0,none⟩ a).setCell ⟨g,1,none⟩ (.int k' m)).setCell ⟨g,2,none⟩ c).setCell ⟨g,3,none⟩ d).heap[g]? = some (.cells #[a,.int k' m,c,d,z4] t (0,0)):=blk_put b2 3 _ rfl;exact ((((he.far 0 a ((blk_cell h 1).trans rfl)).far 1 _ ((blk_cell b0 1).trans rfl)).far 2 _ ((blk_cell b1 1).trans rfl)).far 3 _ ((blk_cell b2 1).trans rfl)).far 4 _ ((blk_cell b3 1).trans rfl)
def z24:Array Value:=#[.int .i64 0,.int .i64 0,.int .i64 0,.int .i64 0,.string ⟨#[]⟩]
def NotSign (l:List Int) (k:Nat):Prop:=∀ j x,j < k→Pure.signsL[j]? = some x→x.isPrefixOf l=false
theorem find_first {α:Type} (p:α→Bool) (L:List α):∀ (k:Nat) (x:α),L[k]? = some x→(∀ j y,j < k→L[j]? = some y→p y=false)→p x=true→L.find? p=some x:=by
 induction L with
 | nil=>intro k x h;simp at h
 | cons a L ih=>
  intro k x h hn hx;match k with
  | 0=>
   simp at h;subst h;simp [hx]
  | k+1=>
   have ha:=hn 0 a (by omega) rfl;rw [List.find?_cons,ha];exact ih k x (by simpa using h) (fun j y hj hy=>hn (j+1) y (by omega) (by simpa using hy)) hx
theorem find_none {α:Type} (p:α→Bool) (L:List α) (h:∀ j y,j < L.length→L[j]? = some y→p y=false):L.find? p=none:=by
 rw [List.find?_eq_none];intro x hx;obtain ⟨j,hj,e⟩:=List.getElem_of_mem hx;have:=h j x hj (by rw [List.getElem?_eq_getElem hj,e]);simp [this]
theorem sign_hit {l:List Int} {k:Nat} {x:List Int} {p:Nat} (hn:NotSign l k) (hk:Pure.signsL[k]? = some x) (hx:x.isPrefixOf l=true):signR p l = .inl ⟨1,p,p+x.length,0,x⟩:=by
 unfold signR Pure.signAt;rw [find_first (fun x=>x.isPrefixOf l) Pure.signsL k x hk (fun j y a b=>hn j y a b) hx]
theorem sign_miss {l:List Int} {p:Nat} (hn:NotSign l 23):signR p l = .inr (p,2):=by
 unfold signR Pure.signAt;rw [find_none (fun x=>x.isPrefixOf l) Pure.signsL (fun j y hj=>hn j y (by simpa [Pure.signsL] using hj))]
theorem NotSign.next {l:List Int} {k:Nat} {x:List Int} (h:NotSign l k) (hk:Pure.signsL[k]? = some x) (hx:x.isPrefixOf l=false):NotSign l (k+1):=by
 intro j y hj hy;rcases Nat.lt_or_eq_of_le (Nat.le_of_lt_succ hj) with h1|rfl
 ·exact h j y h1 hy
 ·rw [hk] at hy;obtain rfl:=Option.some.inj hy;exact hx
theorem prefix_eq (s y:ByteArray) (p:Nat) (hp:p≤s.size):(bytesOf y).isPrefixOf ((bytesOf s).drop p)=true ↔ p+y.size≤s.size∧s.extract p (p+y.size)=y:=by
 have e:p+y.size≤s.size→bytesOf (s.extract p (p+y.size))=((bytesOf s).drop p).take y.size:=by
  intro h;unfold bytesOf;rw [← List.map_drop,← List.map_take];congr 1;simp [ByteArray.data_extract,List.extract_eq_take_drop]
 rw [List.isPrefixOf_iff_prefix];constructor
 ·intro h;have hl:=h.length_le;rw [List.length_drop,bytesOf_length,bytesOf_length] at hl;(have h1:p+y.size≤s.size:=by omega);refine ⟨h1,Pure.bytesOf_inj ?_⟩;rw [e h1];have:=List.prefix_iff_eq_take.1 h;rw [bytesOf_length] at this;exact this.symm
 ·rintro ⟨h1,h2⟩;have:=e h1;rw [h2] at this;rw [this];exact List.take_prefix _ _
set_option maxRecDepth 100000 in
set_option maxHeartbeats 2000000 in
theorem sign_calls (s:ByteArray) (at_:Nat) (w:World) (hs:Signs w) (hsz:s.size≤140737488351232) (ha:at_≤s.size) :
  Calls Tryd.prog 49 #[.string s,.int .i64 (at_:Int)] w fun e w'=>NextPost (signR at_ ((bytesOf s).drop at_)) e w'∧Below w.heap.size w w':=by
 have hS:=Lib.hid hs;clear hs;(go_enter Tryd.func49,Tryd.ntmps49);go_wp2_with (first|((with_reducible refine gate_dst (N:=9) rfl ?_);refine Kd.event_run rfl (v:=tableV) (table_run _ _ rfl _ (hS.out.below (below_alloc (Below.refl w.heap.size w) _) (Nat.le_refl _))) ?_));go_loopw [10] (fun i wr=>∃ k:Nat,k≤23∧i = .int .i64 (k:Int)∧Hid (NotSign ((bytesOf s).drop at_) k)∧Below w.heap.size w wr∧wr.heap[w.heap.size]? = some (.cells z24 24 (0,0))) (fun i _=>23 - (intOf i).toNat)
 case atStart=>exact ⟨0,by omega,rfl,fun j x h=>absurd h (by omega),below_alloc (Below.refl _ _) _,blk_new _ _⟩
 case round=>
  obtain ⟨k,hk,rfl,hn,hB,hblk⟩:=hrel;by_cases h23:k < 23
  ·obtain ⟨y,hy⟩:∃ y,signsB[k]? = some y:=⟨_,List.getElem?_eq_getElem (show k < signsB.length by simpa [signsB] using h23)⟩;(have hx:Pure.signsL[k]? = some (bytesOf y):=by rw [← signs_bytes,List.getElem?_map,hy];rfl);have hi:=table_at k h23 y hy;have Hx:=Lib.hid hx;clear hy hx;have hpe:=prefix_eq s y at_ ha;have hy2:y.size≤2:=by
    have:=(Pure.signs_pos _ (List.mem_of_getElem? Hx.out)).2;rwa [bytesOf_length] at this
   (have g0:(0:Int)≤(at_:Int):=by omega);(have g1:(at_:Int)≤(at_:Int)+(y.size:Int):=by omega);have hblk0:=Lib.hid hblk;have HB:=Lib.hid hB;by_cases hfit:(at_:Int)+(y.size:Int)≤(s.size:Int)
   ·by_cases he:s.extract at_ (at_+y.size)=y
    ·have hp:=hpe.2 ⟨by omega,he⟩;have hr:=sign_hit (p:=at_) hn.out Hx.out hp;rw [bytesOf_length] at hr;have HR:=Lib.hid hr;(have ge:((s.extract at_ (at_+y.size)).toList == y.toList)=true:=by rw [he];exact beq_self_eq_true _);obtain ⟨c0,c1,c2,c3,c4⟩:=cells5 hblk;obtain ⟨f0,f1,f2,f3,f4⟩:=frozen5 hblk;clear hpe hp hr hB hblk hn;go_wp2;refine bodyPost_ret (results_ct rfl _ _ w.heap.size 24 _ (0,0) _ rfl (put5 _ _ _ _ _ hblk0.out) Tryd.underlying24 rfl (by kernel_rfl)) rfl ⟨?_,below5 _ _ _ _ _ HB.out (Nat.le_refl _)⟩;rw [HR.out];show _=Ending.returned (.tuple #[tokV _,.nilIface]);simp [tokV,Pure.strOfNums_bytesOf]
    ·have hp:(bytesOf y).isPrefixOf ((bytesOf s).drop at_)=false:=by
      rw [Bool.eq_false_iff];exact fun h=>he (hpe.1 h).2
     have ge:((s.extract at_ (at_+y.size)).toList == y.toList)=false:=by
      exact beq_eq_false_iff_ne.2 fun h=>he (Pure.toList_inj.1 h)
     have HN:=Lib.hid (hn.out.next Hx.out hp);clear hpe hp hB hblk hn he;go_wp2;go_roundw
     case rel=>exact ⟨k+1,by omega,by go_num,HN,HB.out,hblk0.out⟩
     case measure=>simp [intOf];omega
   ·have hp:(bytesOf y).isPrefixOf ((bytesOf s).drop at_)=false:=by
     rw [Bool.eq_false_iff];exact fun h=>hfit (by have:=(hpe.1 h).1;omega)
    have HN:=Lib.hid (hn.out.next Hx.out hp);clear hpe hp hB hblk hn;go_wp2;go_roundw
    case rel=>exact ⟨k+1,by omega,by go_num,HN,HB.out,hblk0.out⟩
    case measure=>simp [intOf];omega
  ·(have hn':NotSign ((bytesOf s).drop at_) 23:=by rw [show (23:Nat)=k by omega];exact hn.out);have HR:=Lib.hid (sign_miss (p:=at_) hn');have hblk0:=Lib.hid hblk;have HB:=Lib.hid hB;clear hn hn' hB hblk;(go_wp2_with fail);refine (new_calls 2 (at_:Int) wr (by decide)).mono ?_;rintro e w1 ⟨v,rfl,he1,hb1⟩;have hblk:=blk_below hblk0.out hb1;have HB1:=Lib.hid (below_then HB.out HB.out.size hb1);have HE1:=Lib.hid he1;obtain ⟨c0,c1,c2,c3,c4⟩:=cells5 hblk;obtain ⟨f0,f1,f2,f3,f4⟩:=frozen5 hblk;have hblk1:=Lib.hid hblk;clear hblk hb1 he1;go_wp2;refine bodyPost_ret (results_ct rfl _ _ w.heap.size 24 _ (0,0) _ rfl (put5 _ _ _ _ _ hblk1.out) Tryd.underlying24 rfl (by kernel_rfl)) rfl ⟨?_,below5 _ _ _ _ _ HB1.out (Nat.le_refl _)⟩;rw [HR.out];exact ⟨v,rfl,HE1.out.put5 _ _ _ _ hblk1.out⟩
end Go.Proofs.YtkbjblhompkdkaaDoor
namespace Go.Proofs.YtkbjblhompkdkaaDoor
open Go.RowKit Go.Proofs.YtkbjblhompkdkaaDoor.PA Go.Proofs.YtkbjblhompkdkaaDoorW.PrintWords Go.Proofs.YtkbjblhompkdkaaDoorW.PrintLast
set_option linter.unusedVariables false
set_option linter.unusedSimpArgs false
theorem blank_some (c:Int):lex_Blank.f c=some (Pure.blank c):=by
 unfold lex_Blank.f Pure.blank;(repeat' split);all_goals (congr 1;symm;first|(rw [decide_eq_true_iff];omega)|(rw [decide_eq_false_iff_not];omega))
theorem digit_some (c:Int):lex_digit.f c=some (Pure.digB c):=by
 by_cases h1:c ≥ 48 <;> by_cases h2:c≤57 <;> simp [lex_digit.f,Pure.digB,Pure.isDig,h1,h2] <;> omega
theorem letter_some (k:Nat) (c:Int) (b:Bool):lex_letter.f (k+4) c b=some (if b=true then Pure.inName c else decide (Pure.isLet c)):=by
 have hd:=digit_some c;simp only [Pure.digB,Pure.isDig,Bool.decide_and] at hd;unfold lex_letter.f Pure.inName Pure.isLet Pure.isDig;by_cases h1:c ≥ 97 <;> by_cases h2:c≤122 <;> by_cases h3:c ≥ 65 <;> by_cases h4:c≤90 <;> by_cases h5:c=95 <;> cases b <;>
  first
  | (exfalso;omega)
  | (simp [lex_letter.j0,lex_letter.j1,h1,h2,h3,h4,h5,hd];done)
  | (simp [lex_letter.j0,lex_letter.j1,h1,h2,h3,h4,h5,hd];omega)
  | (simp [lex_letter.j0,lex_letter.j1,h1,h2,h3,h4,h5,hd];by_cases g1:(48:Int)≤c <;> by_cases g2:c≤57 <;> simp [g1,g2])
theorem bytes_from (s:ByteArray) (p:Nat) (hp:p≤s.size):bytesOf (s.extract p s.size)=(bytesOf s).drop p:=by
 unfold bytesOf;rw [← List.map_drop];congr 1;simp [ByteArray.data_extract,List.extract_eq_take_drop];rw [List.take_of_length_le (by simp)]
theorem bytes_part (s:ByteArray) (p n:Nat) (h:p+n≤s.size):bytesOf (s.extract p (p+n))=((bytesOf s).drop p).take n:=by
 unfold bytesOf;rw [← List.map_drop,← List.map_take];congr 1;simp [ByteArray.data_extract,List.extract_eq_take_drop]
def textQ (p:Nat) (r:List Int × Nat × Int):Pure.Tok ⊕ (Nat × Int):=if r.2.2=0 then .inl ⟨4,p,p+r.2.1,0,r.1⟩ else .inr (p+r.2.1,r.2.2)
def textR (p:Nat) (l:List Int):Pure.Tok ⊕ (Nat × Int):=textQ p (Pure.unquoteL l)
set_option maxRecDepth 100000 in
set_option maxHeartbeats 2000000 in
theorem text_calls (s:ByteArray) (at_:Nat) (w:World) (hsz:s.size≤140737488351232) (ha:at_≤s.size) :
  Calls Tryd.prog 45 #[.string s,.int .i64 (at_:Int)] w fun e w'=>NextPost (textR at_ ((bytesOf s).drop at_)) e w'∧Below w.heap.size w w':=by
 obtain ⟨ku,hu⟩:=Pure.unquote_ev (s.extract at_ s.size) (by simp;omega);have hu':=hu ku (Nat.le_refl _);have hul:=Pure.unquoteL_len ((bytesOf s).drop at_);have hub:=Pure.unquoteL_bytes ((bytesOf s).drop at_) (fun x hx=>Pure.bytesOf_range s x (List.mem_of_mem_drop hx));unfold Pure.resU at hu';rw [bytes_from s at_ ha] at hu';rw [List.length_drop,bytesOf_length] at hul;unfold textR;generalize (Pure.unquoteL ((bytesOf s).drop at_))=r at *
 obtain ⟨x,n,c⟩:=r;simp only [] at hu' hul hub;have HU:=Lib.hid hu';(have g1:(at_:Int)≤(s.size:Int):=by omega);(have hn:n≤s.size:=by omega);clear hu hu' hul hub ha;(go_enter Tryd.func45,Tryd.ntmps45);by_cases h0:c=0
 ·subst h0;(go_wp2_with fail);refine (quote_Unquote.calls ku _ _ _ _ _ HU.out).mono ?_;rintro e w1 ⟨rfl,hb1⟩;have hblk:=blk_below (blk_new w (.cells z24 24)) hb1;have HB1:=Lib.hid (below_then (below_alloc (Below.refl w.heap.size w) (.cells z24 24)) (below_alloc (Below.refl w.heap.size w) (.cells z24 24)).size hb1);obtain ⟨k0,k1,k2,k3,k4⟩:=cells5 hblk;obtain ⟨f0,f1,f2,f3,f4⟩:=frozen5 hblk;have HK:=Lib.hid hblk;clear hblk;clear hb1;go_wp2;refine bodyPost_ret (results_ct rfl _ _ w.heap.size 24 _ (0,0) _ rfl (put5 _ _ _ _ _ HK.out) Tryd.underlying24 rfl (by kernel_rfl)) rfl ⟨?_,below5 _ _ _ _ _ HB1.out (Nat.le_refl _)⟩;show _=Ending.returned (.tuple #[tokV _,.nilIface]);simp [tokV]
 ·have h1:(c == 0)=false:=beq_eq_false_iff_ne.2 h0;have H0:=Lib.hid h0;clear h0;(go_wp2_with fail);refine (quote_Unquote.calls ku _ _ _ _ _ HU.out).mono ?_;rintro e w1 ⟨rfl,hb1⟩;have hblk1:=blk_below (blk_new w (.cells z24 24)) hb1;have HK1:=Lib.hid hblk1;have HB1:=Lib.hid (below_then (below_alloc (Below.refl w.heap.size w) (.cells z24 24)) (below_alloc (Below.refl w.heap.size w) (.cells z24 24)).size hb1);clear hb1 hblk1;(go_wp2_with fail);refine (new_calls c ((at_:Int)+(n:Int)) w1 H0.out).mono ?_;rintro e w2 ⟨v,rfl,he2,hb2⟩;have hblk:=blk_below HK1.out hb2;have HB2:=Lib.hid (below_then HB1.out HB1.out.size hb2);have HE2:=Lib.hid he2;obtain ⟨k0,k1,k2,k3,k4⟩:=cells5 hblk;obtain ⟨f0,f1,f2,f3,f4⟩:=frozen5 hblk;have HK:=Lib.hid hblk;clear hblk;clear he2 hb2;go_wp2;refine bodyPost_ret (results_ct rfl _ _ w.heap.size 24 _ (0,0) _ rfl (put5 _ _ _ _ _ HK.out) Tryd.underlying24 rfl (by kernel_rfl)) rfl ⟨?_,below5 _ _ _ _ _ HB2.out (Nat.le_refl _)⟩;unfold textQ;rw [if_neg H0.out];exact ⟨v,rfl,by push_cast;exact HE2.out.put5 _ _ _ _ HK.out⟩
end Go.Proofs.YtkbjblhompkdkaaDoor
namespace Go.Proofs.YtkbjblhompkdkaaDoor
open Go.RowKit Go.Proofs.YtkbjblhompkdkaaDoor.PA Go.Proofs.YtkbjblhompkdkaaDoorW.PrintWords Go.Proofs.YtkbjblhompkdkaaDoorW.PrintLast
set_option linter.unusedVariables false
set_option linter.unusedSimpArgs false
theorem lead_in (P:Int→Bool) (s:ByteArray) {i:Nat} (h:i < s.size) (hp:P (bt s (i:Int))=true):Pure.lead P ((bytesOf s).drop i)=Pure.lead P ((bytesOf s).drop (i+1))+1:=by
 rw [Pure.bytes_drop s h,Pure.lead,if_pos hp]
theorem lead_out (P:Int→Bool) (s:ByteArray) {i:Nat} (h:i < s.size) (hp:P (bt s (i:Int))=false):Pure.lead P ((bytesOf s).drop i)=0:=by
 rw [Pure.bytes_drop s h,Pure.lead,if_neg (by rw [hp];decide)]
theorem lead_end (P:Int→Bool) (s:ByteArray) {i:Nat} (h:s.size≤i):Pure.lead P ((bytesOf s).drop i)=0:=by
 rw [Pure.bytes_end s h,Pure.lead]
theorem bt_nat (s:ByteArray) (p:Nat):∀ h:p < s.size,((s[p]'h).toNat:Int)=bt s (p:Int):=fun h=>by simp [bt,h]
theorem drawn_below {w w':World} (h:Drawn0 w w'):Below w.heap.size w w':=by
 obtain ⟨n,rfl⟩:=h;exact pw_below_drewN (Below.refl _ _) n
def nextI (l:List Int) (a:Int):Pure.Tok ⊕ (Nat × Int):=if a < 0 ∨ a > l.length then .inr (0,1) else Pure.nextS l a.toNat
theorem nextS_at (l:List Int) (a p:Nat) (h:a+Pure.lead Pure.blank (l.drop a)=p):Pure.nextS l a=Pure.tokAt p (l.drop p):=by
 unfold Pure.nextS;rw [h]
theorem tokAt_text (p:Nat) (l:List Int) (h:l.head? = some 34):Pure.tokAt p l=textR p l:=by
 cases l with
 | nil=>simp at h
 | cons c r=>
  (obtain rfl:c=34:=by simpa using h);simp only [Pure.tokAt,textR,textQ];rw [if_pos trivial]
theorem extract_word (s:ByteArray) (p n:Nat) (h:p+1+n≤s.size):strOfNums (bt s (p:Int) :: ((bytesOf s).drop (p+1)).take n)=s.extract p (p+1+n):=by
 have e:=bytes_part s p (1+n) (by omega);rw [Pure.bytes_drop s (by omega),show 1+n=n+1 by omega,List.take_succ_cons] at e;rw [← e,Pure.strOfNums_bytesOf,show p+(n+1)=p+1+n by omega]
theorem bytes_word (s:ByteArray) (p n:Nat) (h:p+1+n≤s.size):bytesOf (s.extract p (p+1+n))=bt s (p:Int) :: ((bytesOf s).drop (p+1)).take n:=by
 have e:=bytes_part s p (1+n) (by omega);rw [Pure.bytes_drop s (by omega),show 1+n=n+1 by omega,List.take_succ_cons] at e;rw [show p+1+n=p+(n+1) by omega,e]
def numQ (p n:Nat) (v:Int × Int):Pure.Tok ⊕ (Nat × Int):=if v.2=0 then .inl ⟨3,p,p+1+n,v.1,[]⟩ else .inr (p,v.2)
theorem tokAt_word (p:Nat) (c:Int) (r:List Int) (h34:c ≠ 34) (h:Pure.isLet c):Pure.tokAt p (c :: r) = .inl ⟨2,p,p+1+Pure.lead Pure.inName r,0,c :: r.take (Pure.lead Pure.inName r)⟩:=by
 simp only [Pure.tokAt];rw [if_neg h34,if_pos h]
theorem tokAt_num (p:Nat) (c:Int) (r:List Int) (h34:c ≠ 34) (hl:¬ Pure.isLet c) (h:c=45 ∨ Pure.isDig c):Pure.tokAt p (c :: r)=numQ p (Pure.lead Pure.digB r) (Pure.parseS (c :: r.take (Pure.lead Pure.digB r))):=by
 simp only [Pure.tokAt];rw [if_neg h34,if_neg hl,if_pos h];rfl
theorem tokAt_sign (p:Nat) (c:Int) (r:List Int) (h34:c ≠ 34) (hl:¬ Pure.isLet c) (h:¬ (c=45 ∨ Pure.isDig c)):Pure.tokAt p (c :: r)=signR p (c :: r):=by
 simp only [Pure.tokAt];rw [if_neg h34,if_neg hl,if_neg h];rfl
set_option maxRecDepth 100000 in
set_option maxHeartbeats 8000000 in
theorem next_in (s:ByteArray) (a:Nat) (w:World) (hs:Signs w) (hsz:s.size≤140737488351232) (ha:a≤s.size) :
  Calls Tryd.prog 16 #[.string s,.int .i64 (a:Int)] w fun e w'=>NextPost (Pure.nextS (bytesOf s) a) e w'∧Below w.heap.size w w':=by
 have HS:=Lib.hid hs;(have g1:¬ ((a:Int) > (s.size:Int)):=by omega);clear hs;(go_enter Tryd.func16,Tryd.ntmps16);go_wp2;go_loopg [1] (s.size - a) (fun k v wr=>∃ p:Nat,v = .int .i64 (p:Int)∧p≤s.size∧a+Pure.lead Pure.blank ((bytesOf s).drop a)=p+Pure.lead Pure.blank ((bytesOf s).drop p)∧Below w.heap.size w wr∧wr.heap[w.heap.size]? = some (.cells z24 24 (0,0))∧k+p=s.size)
 case atStart=>exact ⟨a,rfl,ha,rfl,below_alloc (Below.refl _ _) _,blk_new _ _,by omega⟩
 case round=>
  obtain ⟨p,rfl,hp,hl,hB,hblk,hk⟩:=hrel;by_cases hlt:(p:Int) < (s.size:Int)
  ·(have hpl:p < s.size:=by omega);cases hc:Pure.blank (bt s (p:Int)) with
   | true=>
    have HL:=Lib.hid (hl.trans (show p+Pure.lead Pure.blank ((bytesOf s).drop p)=(p+1)+Pure.lead Pure.blank ((bytesOf s).drop (p+1)) by rw [lead_in _ s hpl hc];omega));have HBK:=Lib.hid hblk;have HB:=Lib.hid hB;have HC:=Lib.hid hc;have hx:=bt_nat s p;clear hl hblk hB hc;(go_wp2_with fail);refine (lex_Blank.calls _ _ _ (blank_some _)).mono ?_;rintro e w1 ⟨rfl,⟨nd,rfl⟩⟩;rw [HC.out];go_wp2;go_roundg (gk - 1)
    case measure=>omega
    case rel=>exact ⟨p+1,by go_num,by omega,HL.out,pw_below_drewN HB.out nd,HBK.out,by omega⟩
   | false=>
    (have hpos:0 < s.size - p:=by omega);(have hp2:a+Pure.lead Pure.blank ((bytesOf s).drop a)=p:=by rw [hl,lead_out _ s hpl hc];rfl);have HP:=Lib.hid (nextS_at (bytesOf s) a p hp2);have HBK:=Lib.hid hblk;have HB:=Lib.hid hB;have HC:=Lib.hid hc;have hx:=bt_nat s p;have HX:=Lib.hid (Pure.bytes_drop s hpl);clear hl hblk hB hc hp2;(go_wp2_with fail);refine (lex_Blank.calls _ _ _ (blank_some _)).mono ?_;rintro e w1 ⟨rfl,hd⟩;rw [HC.out];have HB1:=Lib.hid (below_then HB.out HB.out.size (drawn_below hd));have HBK1:=Lib.hid (blk_below HBK.out (drawn_below hd));clear hd HB HBK;(go_upto_region 6 with (fail));have hK:=blk_new w1 (.cells #[.int .i64 0,.int .i64 (p:Int),.int .i64 ((p:Int)+1),.int .i64 0,.string ⟨#[]⟩] 24);have hb:=below_alloc (Below.refl w1.heap.size w1) (.cells #[.int .i64 0,.int .i64 (p:Int),.int .i64 ((p:Int)+1),.int .i64 0,.string ⟨#[]⟩] 24);have hg6:w.heap.size < w1.heap.size:=blk_lt HBK1.out;have HB2:=Lib.hid (below_then HB1.out HB1.out.size hb);have HBK2:=Lib.hid (blk_below HBK1.out hb);have HK6:=Lib.hid hK;clear hK hb HBK1 HB1;generalize (w1.alloc (.cells #[.int .i64 0,.int .i64 (p:Int),.int .i64 ((p:Int)+1),.int .i64 0,.string ⟨#[]⟩] 24))=w2 at *
    generalize w1.heap.size=g6 at *
    by_cases h34:bt s (p:Int)=34
    ·have b34:(bt s (p:Int) == 34)=true:=beq_iff_eq.2 h34;have HT:=Lib.hid (tokAt_text p ((bytesOf s).drop p) (by rw [HX.out,h34];rfl));clear h34;(go_wp2_with fail);refine (text_calls s p w2 hsz hp).mono ?_;rintro e w3 ⟨hpost,hb3⟩;have HB3:=Lib.hid (below_then HB2.out HB2.out.size hb3);have hblk:=blk_below HBK2.out hb3;obtain ⟨k0,k1,k2,k3,k4⟩:=cells5 hblk;obtain ⟨f0,f1,f2,f3,f4⟩:=frozen5 hblk;have HK:=Lib.hid hblk;clear hblk;clear hb3;obtain ⟨res,hres⟩:∃ r,r=textR p ((bytesOf s).drop p):=⟨_,rfl⟩;rw [← hres] at hpost;have HRES:=Lib.hid (HT.out.trans hres.symm);clear hres;cases res with
     | inl t=>
      unfold NextPost at hpost;dsimp only at hpost;subst hpost;unfold tokV;go_wp2;refine bodyPost_ret (results_ct rfl _ _ w.heap.size 24 _ (0,0) _ rfl (put5 _ _ _ _ _ HK.out) Tryd.underlying24 rfl (by kernel_rfl)) rfl ⟨?_,below5 _ _ _ _ _ HB3.out (Nat.le_refl _)⟩;rw [HP.out,HRES.out];rfl
     | inr qc=>
      obtain ⟨q,c⟩:=qc;obtain ⟨v,rfl,he⟩:=hpost;have HE:=Lib.hid he;clear he;unfold tok0V;go_wp2;refine bodyPost_ret (results_ct rfl _ _ w.heap.size 24 _ (0,0) _ rfl (put5 _ _ _ _ _ HK.out) Tryd.underlying24 rfl (by kernel_rfl)) rfl ⟨?_,below5 _ _ _ _ _ HB3.out (Nat.le_refl _)⟩;rw [HP.out,HRES.out];exact ⟨v,rfl,HE.out.put5 _ _ _ _ HK.out⟩
    have b34:(bt s (p:Int) == 34)=false:=beq_eq_false_iff_ne.2 h34;by_cases hlet:Pure.isLet (bt s (p:Int))
    ·have HT:=Lib.hid (tokAt_word p (bt s (p:Int)) ((bytesOf s).drop (p+1)) h34 hlet);rw [← HX.out] at HT;have HLT:=Lib.hid (show lex_letter.f 4 (bt s (p:Int)) false=some true by rw [letter_some 0];simp [hlet]);clear hlet h34;(go_wp2_with fail);refine (lex_letter.calls 4 _ _ _ _ HLT.out).mono ?_;rintro e w3 ⟨rfl,hd⟩;have hd':=drawn_below hd;replace HB2:=Lib.hid (below_then HB2.out HB2.out.size hd');replace HBK2:=Lib.hid (blk_below HBK2.out hd');replace HK6:=Lib.hid (blk_below HK6.out hd');clear hd hd';go_wp2;go_loopg [] (s.size - (p+1)) (fun k wr=>∃ q:Nat,p+1≤q∧q≤s.size∧p+1+Pure.lead Pure.inName ((bytesOf s).drop (p+1))=q+Pure.lead Pure.inName ((bytesOf s).drop q)∧Below w.heap.size w wr∧wr.heap[w.heap.size]? = some (.cells z24 24 (0,0))∧wr.heap[g6]? = some (.cells #[.int .i64 0,.int .i64 (p:Int),.int .i64 ((q:Nat):Int),.int .i64 0,.string ⟨#[]⟩] 24 (0,0))∧k+q=s.size)
     case atStart=>exact ⟨p+1,Nat.le_refl _,by omega,rfl,HB2.out,HBK2.out,by rw [HK6.out];push_cast;rfl,by omega⟩
     case round=>
      clear HB2 HBK2 HK6;obtain ⟨q,hpq,hq,hl,hB,hBK,hK6,hk⟩:=hrel;have HB2:=Lib.hid hB;have HBK2:=Lib.hid hBK;have HK6:=Lib.hid hK6;have HL:=Lib.hid hl;clear hB hBK hK6 hl;have hx:=bt_nat s q;have k2:=(blk_cell HK6.out 2).trans (show _=some (.int .i64 ((q:Nat):Int)) from rfl);have f2:=blk_frozen HK6.out 2;by_cases hlt:(q:Int) < (s.size:Int)
      ·(have hql:q < s.size:=by omega);cases hc:Pure.inName (bt s (q:Int)) with
       | true=>
        have HN:=Lib.hid (show lex_letter.f 4 (bt s (q:Int)) true=some true by rw [letter_some 0];simp [hc]);have HL2:=Lib.hid (HL.out.trans (show q+Pure.lead Pure.inName ((bytesOf s).drop q)=(q+1)+Pure.lead Pure.inName ((bytesOf s).drop (q+1)) by rw [lead_in _ s hql hc];omega));clear hc;(go_wp2_with fail);refine (lex_letter.calls 4 (bt s (q:Int)) true _ _ HN.out).mono ?_;rintro e w4 ⟨rfl,hd⟩;have hd':=drawn_below hd;replace HB2:=Lib.hid (below_then HB2.out HB2.out.size hd');replace HBK2:=Lib.hid (blk_below HBK2.out hd');replace HK6:=Lib.hid (blk_below HK6.out hd');clear hd hd';clear k2 f2;have k2:=(blk_cell HK6.out 2).trans (show _=some (.int .i64 ((q:Nat):Int)) from rfl);have f2:=blk_frozen HK6.out 2;go_wp2;go_roundg (gk - 1)
        case measure=>omega
        case rel=>exact ⟨q+1,by omega,by omega,HL2.out,below_set HB2.out (Nat.le_of_lt hg6),blk_far HBK2.out (show w.heap.size ≠ g6 by omega) _,blk_put HK6.out 2 _ (by push_cast;rfl),by omega⟩
       | false=>
        have HN:=Lib.hid (show lex_letter.f 4 (bt s (q:Int)) true=some false by rw [letter_some 0];simp [hc]);have HQ:=Lib.hid (HL.out.trans (by rw [lead_out _ s hql hc];rfl):p+1+Pure.lead Pure.inName ((bytesOf s).drop (p+1))=q);clear hc HL;(go_wp2_with fail);refine (lex_letter.calls 4 (bt s (q:Int)) true _ _ HN.out).mono ?_;rintro e w4 ⟨rfl,hd⟩;have hd':=drawn_below hd;replace HB2:=Lib.hid (below_then HB2.out HB2.out.size hd');replace HBK2:=Lib.hid (blk_below HBK2.out hd');replace HK6:=Lib.hid (blk_below HK6.out hd');clear hd hd';clear k2 f2;have k2:=(blk_cell HK6.out 2).trans (show _=some (.int .i64 ((q:Nat):Int)) from rfl);have f2:=blk_frozen HK6.out 2;have K2:=Lib.hid k2;(have hle:(p:Int)≤(q:Int):=by omega);(have hqs:(q:Int)≤(s.size:Int):=by omega);(go_wp2_with fail);refine start_ (n:=9) (S:=fun w'=>w'.cell? ⟨g6,2,none⟩=some (.int .i64 (q:Int))) (ds:=[]) #[false,false,false,false,false,false,false,false,false] (by kernel_rfl) rfl rfl (K2.out) (fun hHeld=>?_);refine pure_ (i:=0) (N:=some 79) (v:=?_) (a':=?_) #[true,false,false,false,false,false,false,false,false] rfl rfl (by kernel_rfl) (fun _ _ _ h=>h) (Or.inl ⟨by rfl,?_⟩) ?_ ?_;rotate_left
        ·intro w';go_simp;with_reducible rfl
        rotate_left
        ·simp only [Act.put,List.setIfInBounds_toArray,List.set_cons_zero,List.set_cons_succ,i64_w,i32_w];rfl
        refine pure_ (i:=1) (N:=some 80) (v:=?_) (a':=?_) #[true,true,false,false,false,false,false,false,false] rfl rfl (by kernel_rfl) (fun _ _ _ h=>h) (Or.inl ⟨by rfl,?_⟩) ?_ ?_;rotate_left
        ·intro w';go_simp;with_reducible rfl
        rotate_left
        ·simp only [Act.put,List.setIfInBounds_toArray,List.set_cons_zero,List.set_cons_succ,i64_w,i32_w];rfl
        refine pure_ (i:=2) (N:=some 81) (v:=?_) (a':=?_) #[true,true,true,false,false,false,false,false,false] rfl rfl (by kernel_rfl) (fun _ _ _ h=>h) (Or.inl ⟨by rfl,?_⟩) ?_ ?_;rotate_left
        ·intro w';go_simp;with_reducible rfl
        rotate_left
        ·simp only [Act.put,List.setIfInBounds_toArray,List.set_cons_zero,List.set_cons_succ,i64_w,i32_w];rfl
        refine take_ (i:=3) (N:=some 82) (v:=?_) (a':=?_) #[true,true,true,true,false,false,false,false,false] rfl rfl (by kernel_rfl) (fun _ _ _ h=>h) (Or.inl ⟨by rfl,?_⟩) hHeld ?_ ?_;rotate_left
        ·intro w' s0;go_simp;with_reducible rfl
        rotate_left
        ·simp only [Act.put,List.setIfInBounds_toArray,List.set_cons_zero,List.set_cons_succ,i64_w,i32_w];rfl
        refine pure_ (i:=4) (N:=some 83) (v:=?_) (a':=?_) #[true,true,true,true,true,false,false,false,false] rfl rfl (by kernel_rfl) (fun _ _ _ h=>h) (Or.inl ⟨by rfl,?_⟩) ?_ ?_;rotate_left
        ·intro w';go_simp;with_reducible rfl
        rotate_left
        ·simp only [Act.put,List.setIfInBounds_toArray,List.set_cons_zero,List.set_cons_succ,i64_w,i32_w];rfl
        refine pure_ (i:=5) (N:=some 84) (v:=?_) (a':=?_) #[true,true,true,true,true,true,false,false,false] rfl rfl (by kernel_rfl) (fun _ _ _ h=>h) (Or.inl ⟨by rfl,?_⟩) ?_ ?_;rotate_left
        ·intro w';go_simp;with_reducible rfl
        rotate_left
        ·simp only [Act.put,List.setIfInBounds_toArray,List.set_cons_zero,List.set_cons_succ,i64_w,i32_w];rfl
        refine one_ (i:=6) (N:=none) #[true,true,true,true,true,true,true,false,false] rfl rfl (by kernel_rfl) (by decide) (fun K hK=>?_);have hb6:=blk_drew HK6.out;have hz0:=(blk_cell hb6 0).trans (show _=some (.int .i64 0) from rfl);have hf0:=blk_frozen hb6 0;refine skip_ (w1:=?_) (by rfl) rfl ?_ ?_;rotate_left
        ·go_simp;rfl
        have HP6:=Lib.hid (blk_put (cs':=#[.int .i64 2,.int .i64 (p:Int),.int .i64 (q:Int),.int .i64 0,.string ⟨#[]⟩]) hb6 0 (.int .i64 2) rfl);clear hz0 hf0 hb6;refine hK.out _ _ ((blk_cell HP6.out 2).trans rfl) (fun hHeld=>?_);clear hK K;refine pure_ (i:=7) (N:=some 85) (v:=?_) (a':=?_) #[true,true,true,true,true,true,true,true,false] rfl rfl (by kernel_rfl) (fun _ _ _ h=>h) (Or.inl ⟨by rfl,?_⟩) ?_ ?_;rotate_left
        ·intro w';go_simp;with_reducible rfl
        rotate_left
        ·simp only [Act.put,List.setIfInBounds_toArray,List.set_cons_zero,List.set_cons_succ,i64_w,i32_w];rfl
        refine one_ (i:=8) (N:=none) #[true,true,true,true,true,true,true,true,true] rfl rfl (by kernel_rfl) (by decide) (fun K hK=>?_);have hz4:=(blk_cell HK6.out 4).trans (show _=some (.string ⟨#[]⟩) from rfl);have hf4:=blk_frozen HK6.out 4;refine skip_ (w1:=?_) (by rfl) rfl ?_ ?_;rotate_left
        ·go_simp;rfl
        have HP8:=Lib.hid (blk_put (cs':=#[.int .i64 2,.int .i64 (p:Int),.int .i64 (q:Int),.int .i64 0,.string (s.extract p q)]) HP6.out 4 (.string (s.extract p q)) rfl);have HB8:=Lib.hid (below_set (j:=4) (v:=.string (s.extract p q)) (below_set (j:=0) (v:=.int .i64 2) (below_drew HB2.out) (Nat.le_of_lt hg6)) (Nat.le_of_lt hg6));have HBK8:=Lib.hid (blk_far (blk_far (blk_drew HBK2.out) (p:=⟨g6,0,none⟩) (show w.heap.size ≠ g6 by omega) (.int .i64 2)) (p:=⟨g6,4,none⟩) (show w.heap.size ≠ g6 by omega) (.string (s.extract p q)));clear hz4 hf4;refine hK.out _ _ ((blk_cell HP8.out 2).trans rfl) (fun hHeld=>?_);clear hK K;refine done_ (by kernel_rfl) ?_

        (go_upto_region 18 with (fail));have HY8:=Lib.hid (show (((w4.setCell ⟨g6,0,none⟩ (.int .i64 2)).setCell ⟨g6,4,none⟩ (.string (s.extract p q))).drew).heap[g6]? = some (.cells #[.int .i64 2,.int .i64 (p:Int),.int .i64 (q:Int),.int .i64 0,.string (s.extract p q)] 24 (0,0)) from HP8.out);have HB9:=Lib.hid (show Below w.heap.size w (((w4.setCell ⟨g6,0,none⟩ (.int .i64 2)).setCell ⟨g6,4,none⟩ (.string (s.extract p q))).drew) from HB8.out);have HBK9:=Lib.hid (show (((w4.setCell ⟨g6,0,none⟩ (.int .i64 2)).setCell ⟨g6,4,none⟩ (.string (s.extract p q))).drew).heap[w.heap.size]? = some (.cells z24 24 (0,0)) from HBK8.out);clear hHeld HP6 HP8 HB8 HBK8 K2 k2 f2;generalize (((w4.setCell ⟨g6,0,none⟩ (.int .i64 2)).setCell ⟨g6,4,none⟩ (.string (s.extract p q))).drew)=w8 at *
        obtain ⟨c0,c1,c2,c3,c4⟩:=cells5 HY8.out;have hblk:=HBK9.out;obtain ⟨k0,k1,k2,k3,k4⟩:=cells5 hblk;obtain ⟨f0,f1,f2,f3,f4⟩:=frozen5 hblk;have HK:=Lib.hid hblk;clear hblk;go_wp2;refine bodyPost_ret (results_ct rfl _ _ w.heap.size 24 _ (0,0) _ rfl (put5 _ _ _ _ _ HK.out) Tryd.underlying24 rfl (by kernel_rfl)) rfl ⟨?_,below5 _ _ _ _ _ HB9.out (Nat.le_refl _)⟩;rw [HP.out,HT.out];show Ending.returned _=Ending.returned (.tuple #[tokV _,.nilIface]);unfold tokV;dsimp only;rw [extract_word s p _ (by have:=HQ.out;omega),HQ.out];rfl
      ·have HQ:=Lib.hid (HL.out.trans (by rw [lead_end _ s (by omega)];rfl):p+1+Pure.lead Pure.inName ((bytesOf s).drop (p+1))=q);clear HL;have K2:=Lib.hid k2;(have hle:(p:Int)≤(q:Int):=by omega);(have hqs:(q:Int)≤(s.size:Int):=by omega);(go_wp2_with fail);refine start_ (n:=9) (S:=fun w'=>w'.cell? ⟨g6,2,none⟩=some (.int .i64 (q:Int))) (ds:=[]) #[false,false,false,false,false,false,false,false,false] (by kernel_rfl) rfl rfl (K2.out) (fun hHeld=>?_);refine pure_ (i:=0) (N:=some 79) (v:=?_) (a':=?_) #[true,false,false,false,false,false,false,false,false] rfl rfl (by kernel_rfl) (fun _ _ _ h=>h) (Or.inl ⟨by rfl,?_⟩) ?_ ?_;rotate_left
       ·intro w';go_simp;with_reducible rfl
       rotate_left
       ·simp only [Act.put,List.setIfInBounds_toArray,List.set_cons_zero,List.set_cons_succ,i64_w,i32_w];rfl
       refine pure_ (i:=1) (N:=some 80) (v:=?_) (a':=?_) #[true,true,false,false,false,false,false,false,false] rfl rfl (by kernel_rfl) (fun _ _ _ h=>h) (Or.inl ⟨by rfl,?_⟩) ?_ ?_;rotate_left
       ·intro w';go_simp;with_reducible rfl
       rotate_left
       ·simp only [Act.put,List.setIfInBounds_toArray,List.set_cons_zero,List.set_cons_succ,i64_w,i32_w];rfl
       refine pure_ (i:=2) (N:=some 81) (v:=?_) (a':=?_) #[true,true,true,false,false,false,false,false,false] rfl rfl (by kernel_rfl) (fun _ _ _ h=>h) (Or.inl ⟨by rfl,?_⟩) ?_ ?_;rotate_left
       ·intro w';go_simp;with_reducible rfl
       rotate_left
       ·simp only [Act.put,List.setIfInBounds_toArray,List.set_cons_zero,List.set_cons_succ,i64_w,i32_w];rfl
       refine take_ (i:=3) (N:=some 82) (v:=?_) (a':=?_) #[true,true,true,true,false,false,false,false,false] rfl rfl (by kernel_rfl) (fun _ _ _ h=>h) (Or.inl ⟨by rfl,?_⟩) hHeld ?_ ?_;rotate_left
       ·intro w' s0;go_simp;with_reducible rfl
       rotate_left
       ·simp only [Act.put,List.setIfInBounds_toArray,List.set_cons_zero,List.set_cons_succ,i64_w,i32_w];rfl
       refine pure_ (i:=4) (N:=some 83) (v:=?_) (a':=?_) #[true,true,true,true,true,false,false,false,false] rfl rfl (by kernel_rfl) (fun _ _ _ h=>h) (Or.inl ⟨by rfl,?_⟩) ?_ ?_;rotate_left
       ·intro w';go_simp;with_reducible rfl
       rotate_left
       ·simp only [Act.put,List.setIfInBounds_toArray,List.set_cons_zero,List.set_cons_succ,i64_w,i32_w];rfl
       refine pure_ (i:=5) (N:=some 84) (v:=?_) (a':=?_) #[true,true,true,true,true,true,false,false,false] rfl rfl (by kernel_rfl) (fun _ _ _ h=>h) (Or.inl ⟨by rfl,?_⟩) ?_ ?_;rotate_left
       ·intro w';go_simp;with_reducible rfl
       rotate_left
       ·simp only [Act.put,List.setIfInBounds_toArray,List.set_cons_zero,List.set_cons_succ,i64_w,i32_w];rfl
       refine one_ (i:=6) (N:=none) #[true,true,true,true,true,true,true,false,false] rfl rfl (by kernel_rfl) (by decide) (fun K hK=>?_);have hb6:=blk_drew HK6.out;have hz0:=(blk_cell hb6 0).trans (show _=some (.int .i64 0) from rfl);have hf0:=blk_frozen hb6 0;refine skip_ (w1:=?_) (by rfl) rfl ?_ ?_;rotate_left
       ·go_simp;rfl
       have HP6:=Lib.hid (blk_put (cs':=#[.int .i64 2,.int .i64 (p:Int),.int .i64 (q:Int),.int .i64 0,.string ⟨#[]⟩]) hb6 0 (.int .i64 2) rfl);clear hz0 hf0 hb6;refine hK.out _ _ ((blk_cell HP6.out 2).trans rfl) (fun hHeld=>?_);clear hK K;refine pure_ (i:=7) (N:=some 85) (v:=?_) (a':=?_) #[true,true,true,true,true,true,true,true,false] rfl rfl (by kernel_rfl) (fun _ _ _ h=>h) (Or.inl ⟨by rfl,?_⟩) ?_ ?_;rotate_left
       ·intro w';go_simp;with_reducible rfl
       rotate_left
       ·simp only [Act.put,List.setIfInBounds_toArray,List.set_cons_zero,List.set_cons_succ,i64_w,i32_w];rfl
       refine one_ (i:=8) (N:=none) #[true,true,true,true,true,true,true,true,true] rfl rfl (by kernel_rfl) (by decide) (fun K hK=>?_);have hz4:=(blk_cell HK6.out 4).trans (show _=some (.string ⟨#[]⟩) from rfl);have hf4:=blk_frozen HK6.out 4;refine skip_ (w1:=?_) (by rfl) rfl ?_ ?_;rotate_left
       ·go_simp;rfl
       have HP8:=Lib.hid (blk_put (cs':=#[.int .i64 2,.int .i64 (p:Int),.int .i64 (q:Int),.int .i64 0,.string (s.extract p q)]) HP6.out 4 (.string (s.extract p q)) rfl);have HB8:=Lib.hid (below_set (j:=4) (v:=.string (s.extract p q)) (below_set (j:=0) (v:=.int .i64 2) (below_drew HB2.out) (Nat.le_of_lt hg6)) (Nat.le_of_lt hg6));have HBK8:=Lib.hid (blk_far (blk_far (blk_drew HBK2.out) (p:=⟨g6,0,none⟩) (show w.heap.size ≠ g6 by omega) (.int .i64 2)) (p:=⟨g6,4,none⟩) (show w.heap.size ≠ g6 by omega) (.string (s.extract p q)));clear hz4 hf4;refine hK.out _ _ ((blk_cell HP8.out 2).trans rfl) (fun hHeld=>?_);clear hK K;refine done_ (by kernel_rfl) ?_

       (go_upto_region 18 with (fail));have HY8:=Lib.hid (show (((wr.setCell ⟨g6,0,none⟩ (.int .i64 2)).setCell ⟨g6,4,none⟩ (.string (s.extract p q))).drew).heap[g6]? = some (.cells #[.int .i64 2,.int .i64 (p:Int),.int .i64 (q:Int),.int .i64 0,.string (s.extract p q)] 24 (0,0)) from HP8.out);have HB9:=Lib.hid (show Below w.heap.size w (((wr.setCell ⟨g6,0,none⟩ (.int .i64 2)).setCell ⟨g6,4,none⟩ (.string (s.extract p q))).drew) from HB8.out);have HBK9:=Lib.hid (show (((wr.setCell ⟨g6,0,none⟩ (.int .i64 2)).setCell ⟨g6,4,none⟩ (.string (s.extract p q))).drew).heap[w.heap.size]? = some (.cells z24 24 (0,0)) from HBK8.out);clear hHeld HP6 HP8 HB8 HBK8 K2 k2 f2;generalize (((wr.setCell ⟨g6,0,none⟩ (.int .i64 2)).setCell ⟨g6,4,none⟩ (.string (s.extract p q))).drew)=w8 at *
       obtain ⟨c0,c1,c2,c3,c4⟩:=cells5 HY8.out;have hblk:=HBK9.out;obtain ⟨k0,k1,k2,k3,k4⟩:=cells5 hblk;obtain ⟨f0,f1,f2,f3,f4⟩:=frozen5 hblk;have HK:=Lib.hid hblk;clear hblk;go_wp2;refine bodyPost_ret (results_ct rfl _ _ w.heap.size 24 _ (0,0) _ rfl (put5 _ _ _ _ _ HK.out) Tryd.underlying24 rfl (by kernel_rfl)) rfl ⟨?_,below5 _ _ _ _ _ HB9.out (Nat.le_refl _)⟩;rw [HP.out,HT.out];show Ending.returned _=Ending.returned (.tuple #[tokV _,.nilIface]);unfold tokV;dsimp only;rw [extract_word s p _ (by have:=HQ.out;omega),HQ.out];rfl
    have HLF:=Lib.hid (show lex_letter.f 4 (bt s (p:Int)) false=some false by rw [letter_some 0];simp [hlet]);by_cases h45:bt s (p:Int)=45
    ·have b45:(bt s (p:Int) == 45)=true:=beq_iff_eq.2 h45;have HT:=Lib.hid (tokAt_num p (bt s (p:Int)) ((bytesOf s).drop (p+1)) h34 hlet (.inl h45));rw [← HX.out] at HT;clear hlet h34 h45;(go_wp2_with fail);refine (lex_letter.calls 4 _ _ _ _ HLF.out).mono ?_;rintro e w3 ⟨rfl,hd⟩;have hd':=drawn_below hd;replace HB2:=Lib.hid (below_then HB2.out HB2.out.size hd');replace HBK2:=Lib.hid (blk_below HBK2.out hd');replace HK6:=Lib.hid (blk_below HK6.out hd');clear hd hd';go_wp2;go_loopg [] (s.size - (p+1)) (fun k wr=>∃ q:Nat,p+1≤q∧q≤s.size∧p+1+Pure.lead Pure.digB ((bytesOf s).drop (p+1))=q+Pure.lead Pure.digB ((bytesOf s).drop q)∧Below w.heap.size w wr∧wr.heap[w.heap.size]? = some (.cells z24 24 (0,0))∧wr.heap[g6]? = some (.cells #[.int .i64 0,.int .i64 (p:Int),.int .i64 ((q:Nat):Int),.int .i64 0,.string ⟨#[]⟩] 24 (0,0))∧k+q=s.size)
     case atStart=>exact ⟨p+1,Nat.le_refl _,by omega,rfl,HB2.out,HBK2.out,by rw [HK6.out];push_cast;rfl,by omega⟩
     case round=>
      clear HB2 HBK2 HK6;obtain ⟨q,hpq,hq,hl,hB,hBK,hK6,hk⟩:=hrel;have HB2:=Lib.hid hB;have HBK2:=Lib.hid hBK;have HK6:=Lib.hid hK6;have HL:=Lib.hid hl;clear hB hBK hK6 hl;have hx:=bt_nat s q;have k2:=(blk_cell HK6.out 2).trans (show _=some (.int .i64 ((q:Nat):Int)) from rfl);have f2:=blk_frozen HK6.out 2;by_cases hlt:(q:Int) < (s.size:Int)
      ·(have hql:q < s.size:=by omega);cases hc:Pure.digB (bt s (q:Int)) with
       | true=>
        have HN:=Lib.hid (show lex_digit.f (bt s (q:Int))=some true by rw [digit_some,hc]);have HL2:=Lib.hid (HL.out.trans (show q+Pure.lead Pure.digB ((bytesOf s).drop q)=(q+1)+Pure.lead Pure.digB ((bytesOf s).drop (q+1)) by rw [lead_in _ s hql hc];omega));clear hc;(go_wp2_with fail);refine (lex_digit.calls (bt s (q:Int)) _ _ HN.out).mono ?_;rintro e w4 ⟨rfl,hd⟩;have hd':=drawn_below hd;replace HB2:=Lib.hid (below_then HB2.out HB2.out.size hd');replace HBK2:=Lib.hid (blk_below HBK2.out hd');replace HK6:=Lib.hid (blk_below HK6.out hd');clear hd hd';clear k2 f2;have k2:=(blk_cell HK6.out 2).trans (show _=some (.int .i64 ((q:Nat):Int)) from rfl);have f2:=blk_frozen HK6.out 2;go_wp2;go_roundg (gk - 1)
        case measure=>omega
        case rel=>exact ⟨q+1,by omega,by omega,HL2.out,below_set HB2.out (Nat.le_of_lt hg6),blk_far HBK2.out (show w.heap.size ≠ g6 by omega) _,blk_put HK6.out 2 _ (by push_cast;rfl),by omega⟩
       | false=>
        have HN:=Lib.hid (show lex_digit.f (bt s (q:Int))=some false by rw [digit_some,hc]);have HQ:=Lib.hid (HL.out.trans (by rw [lead_out _ s hql hc];rfl):p+1+Pure.lead Pure.digB ((bytesOf s).drop (p+1))=q);clear hc HL;(go_wp2_with fail);refine (lex_digit.calls (bt s (q:Int)) _ _ HN.out).mono ?_;rintro e w4 ⟨rfl,hd⟩;have hd':=drawn_below hd;replace HB2:=Lib.hid (below_then HB2.out HB2.out.size hd');replace HBK2:=Lib.hid (blk_below HBK2.out hd');replace HK6:=Lib.hid (blk_below HK6.out hd');clear hd hd';clear k2 f2;have k2:=(blk_cell HK6.out 2).trans (show _=some (.int .i64 ((q:Nat):Int)) from rfl);have f2:=blk_frozen HK6.out 2;(have hle:(p:Int)≤(q:Int):=by omega);(have hqs:(q:Int)≤(s.size:Int):=by omega);obtain ⟨kp,hpz⟩:=Pure.num_Parse_ev (s.extract p q) (by simp;omega);have hpz:=hpz kp (Nat.le_refl _);rw [← HQ.out,bytes_word s p _ (by have:=HQ.out;omega),HQ.out] at hpz;generalize Pure.parseS (bt s (p:Int) :: ((bytesOf s).drop (p+1)).take (Pure.lead Pure.digB ((bytesOf s).drop (p+1))))=v at *
        obtain ⟨n,c⟩:=v;have HPZ:=Lib.hid hpz;clear hpz;by_cases hc0:c=0
        ·subst hc0;have HT:=Lib.hid (HT.out.trans (show numQ p (Pure.lead Pure.digB ((bytesOf s).drop (p+1))) (n,0) = .inl ⟨3,p,q,n,[]⟩ by unfold numQ;rw [if_pos rfl,HQ.out]));(go_wp2_with fail);refine (num_Parse.calls kp _ _ _ _ HPZ.out).mono ?_;rintro e w5 ⟨rfl,hd⟩;have hd':=drawn_below hd;replace HB2:=Lib.hid (below_then HB2.out HB2.out.size hd');replace HBK2:=Lib.hid (blk_below HBK2.out hd');replace HK6:=Lib.hid (blk_below HK6.out hd');clear hd hd' k2 f2;have k0:=(blk_cell HK6.out 0).trans (show _=some (.int .i64 0) from rfl);have k3:=(blk_cell HK6.out 3).trans (show _=some (.int .i64 0) from rfl);have f0:=blk_frozen HK6.out 0;have f3:=blk_frozen HK6.out 3;(go_upto_region 25 with (fail));have HY8:=Lib.hid (show ((w5.setCell ⟨g6,0,none⟩ (.int .i64 3)).setCell ⟨g6,3,none⟩ (.int .i64 n)).heap[g6]? = some (.cells #[.int .i64 3,.int .i64 (p:Int),.int .i64 (q:Int),.int .i64 n,.string ⟨#[]⟩] 24 (0,0)) from blk_put (cs:=#[.int .i64 3,.int .i64 (p:Int),.int .i64 (q:Int),.int .i64 0,.string ⟨#[]⟩]) (blk_put HK6.out 0 _ rfl) 3 _ rfl);have HB9:=Lib.hid (show Below w.heap.size w ((w5.setCell ⟨g6,0,none⟩ (.int .i64 3)).setCell ⟨g6,3,none⟩ (.int .i64 n)) from below_set (below_set HB2.out (Nat.le_of_lt hg6)) (Nat.le_of_lt hg6));have HBK9:=Lib.hid (show ((w5.setCell ⟨g6,0,none⟩ (.int .i64 3)).setCell ⟨g6,3,none⟩ (.int .i64 n)).heap[w.heap.size]? = some (.cells z24 24 (0,0)) from blk_far (blk_far HBK2.out (p:=⟨g6,0,none⟩) (show w.heap.size ≠ g6 by omega) _) (p:=⟨g6,3,none⟩) (show w.heap.size ≠ g6 by omega) _);clear k0 k3 f0 f3;generalize ((w5.setCell ⟨g6,0,none⟩ (.int .i64 3)).setCell ⟨g6,3,none⟩ (.int .i64 n))=w8 at *
         obtain ⟨c0,c1,c2,c3,c4⟩:=cells5 HY8.out;have hblk:=HBK9.out;obtain ⟨k0,k1,k2,k3,k4⟩:=cells5 hblk;obtain ⟨f0,f1,f2,f3,f4⟩:=frozen5 hblk;have HK:=Lib.hid hblk;clear hblk;go_wp2;refine bodyPost_ret (results_ct rfl _ _ w.heap.size 24 _ (0,0) _ rfl (put5 _ _ _ _ _ HK.out) Tryd.underlying24 rfl (by kernel_rfl)) rfl ⟨?_,below5 _ _ _ _ _ HB9.out (Nat.le_refl _)⟩;rw [HP.out,HT.out];rfl
        ·skip;have b0:(c == 0)=false:=beq_eq_false_iff_ne.2 hc0;have HT:=Lib.hid (HT.out.trans (show numQ p (Pure.lead Pure.digB ((bytesOf s).drop (p+1))) (n,c) = .inr (p,c) by unfold numQ;rw [if_neg hc0]));have HC0:=Lib.hid hc0;clear hc0;(go_wp2_with fail);refine (num_Parse.calls kp _ _ _ _ HPZ.out).mono ?_;rintro e w5 ⟨rfl,hd⟩;have hd':=drawn_below hd;replace HB2:=Lib.hid (below_then HB2.out HB2.out.size hd');replace HBK2:=Lib.hid (blk_below HBK2.out hd');clear hd hd' k2 f2;(go_wp2_with fail);refine (new_calls c (p:Int) _ HC0.out).mono ?_;rintro e w6 ⟨v,rfl,he6,hb6⟩;have HB9:=Lib.hid (below_then HB2.out HB2.out.size hb6);have hblk:=blk_below HBK2.out hb6;have HE6:=Lib.hid he6;clear he6 hb6;obtain ⟨k0,k1,k2,k3,k4⟩:=cells5 hblk;obtain ⟨f0,f1,f2,f3,f4⟩:=frozen5 hblk;have HK:=Lib.hid hblk;clear hblk;go_wp2;refine bodyPost_ret (results_ct rfl _ _ w.heap.size 24 _ (0,0) _ rfl (put5 _ _ _ _ _ HK.out) Tryd.underlying24 rfl (by kernel_rfl)) rfl ⟨?_,below5 _ _ _ _ _ HB9.out (Nat.le_refl _)⟩;rw [HP.out,HT.out];exact ⟨v,rfl,HE6.out.put5 _ _ _ _ HK.out⟩
      ·have HQ:=Lib.hid (HL.out.trans (by rw [lead_end _ s (by omega)];rfl):p+1+Pure.lead Pure.digB ((bytesOf s).drop (p+1))=q);clear HL;(have hle:(p:Int)≤(q:Int):=by omega);(have hqs:(q:Int)≤(s.size:Int):=by omega);obtain ⟨kp,hpz⟩:=Pure.num_Parse_ev (s.extract p q) (by simp;omega);have hpz:=hpz kp (Nat.le_refl _);rw [← HQ.out,bytes_word s p _ (by have:=HQ.out;omega),HQ.out] at hpz;generalize Pure.parseS (bt s (p:Int) :: ((bytesOf s).drop (p+1)).take (Pure.lead Pure.digB ((bytesOf s).drop (p+1))))=v at *
       obtain ⟨n,c⟩:=v;have HPZ:=Lib.hid hpz;clear hpz;by_cases hc0:c=0
       ·subst hc0;have HT:=Lib.hid (HT.out.trans (show numQ p (Pure.lead Pure.digB ((bytesOf s).drop (p+1))) (n,0) = .inl ⟨3,p,q,n,[]⟩ by unfold numQ;rw [if_pos rfl,HQ.out]));(go_wp2_with fail);refine (num_Parse.calls kp _ _ _ _ HPZ.out).mono ?_;rintro e w5 ⟨rfl,hd⟩;have hd':=drawn_below hd;replace HB2:=Lib.hid (below_then HB2.out HB2.out.size hd');replace HBK2:=Lib.hid (blk_below HBK2.out hd');replace HK6:=Lib.hid (blk_below HK6.out hd');clear hd hd' k2 f2;have k0:=(blk_cell HK6.out 0).trans (show _=some (.int .i64 0) from rfl);have k3:=(blk_cell HK6.out 3).trans (show _=some (.int .i64 0) from rfl);have f0:=blk_frozen HK6.out 0;have f3:=blk_frozen HK6.out 3;(go_upto_region 25 with (fail));have HY8:=Lib.hid (show ((w5.setCell ⟨g6,0,none⟩ (.int .i64 3)).setCell ⟨g6,3,none⟩ (.int .i64 n)).heap[g6]? = some (.cells #[.int .i64 3,.int .i64 (p:Int),.int .i64 (q:Int),.int .i64 n,.string ⟨#[]⟩] 24 (0,0)) from blk_put (cs:=#[.int .i64 3,.int .i64 (p:Int),.int .i64 (q:Int),.int .i64 0,.string ⟨#[]⟩]) (blk_put HK6.out 0 _ rfl) 3 _ rfl);have HB9:=Lib.hid (show Below w.heap.size w ((w5.setCell ⟨g6,0,none⟩ (.int .i64 3)).setCell ⟨g6,3,none⟩ (.int .i64 n)) from below_set (below_set HB2.out (Nat.le_of_lt hg6)) (Nat.le_of_lt hg6));have HBK9:=Lib.hid (show ((w5.setCell ⟨g6,0,none⟩ (.int .i64 3)).setCell ⟨g6,3,none⟩ (.int .i64 n)).heap[w.heap.size]? = some (.cells z24 24 (0,0)) from blk_far (blk_far HBK2.out (p:=⟨g6,0,none⟩) (show w.heap.size ≠ g6 by omega) _) (p:=⟨g6,3,none⟩) (show w.heap.size ≠ g6 by omega) _);clear k0 k3 f0 f3;generalize ((w5.setCell ⟨g6,0,none⟩ (.int .i64 3)).setCell ⟨g6,3,none⟩ (.int .i64 n))=w8 at *
        obtain ⟨c0,c1,c2,c3,c4⟩:=cells5 HY8.out;have hblk:=HBK9.out;obtain ⟨k0,k1,k2,k3,k4⟩:=cells5 hblk;obtain ⟨f0,f1,f2,f3,f4⟩:=frozen5 hblk;have HK:=Lib.hid hblk;clear hblk;go_wp2;refine bodyPost_ret (results_ct rfl _ _ w.heap.size 24 _ (0,0) _ rfl (put5 _ _ _ _ _ HK.out) Tryd.underlying24 rfl (by kernel_rfl)) rfl ⟨?_,below5 _ _ _ _ _ HB9.out (Nat.le_refl _)⟩;rw [HP.out,HT.out];rfl
       ·skip;have b0:(c == 0)=false:=beq_eq_false_iff_ne.2 hc0;have HT:=Lib.hid (HT.out.trans (show numQ p (Pure.lead Pure.digB ((bytesOf s).drop (p+1))) (n,c) = .inr (p,c) by unfold numQ;rw [if_neg hc0]));have HC0:=Lib.hid hc0;clear hc0;(go_wp2_with fail);refine (num_Parse.calls kp _ _ _ _ HPZ.out).mono ?_;rintro e w5 ⟨rfl,hd⟩;have hd':=drawn_below hd;replace HB2:=Lib.hid (below_then HB2.out HB2.out.size hd');replace HBK2:=Lib.hid (blk_below HBK2.out hd');clear hd hd' k2 f2;(go_wp2_with fail);refine (new_calls c (p:Int) _ HC0.out).mono ?_;rintro e w6 ⟨v,rfl,he6,hb6⟩;have HB9:=Lib.hid (below_then HB2.out HB2.out.size hb6);have hblk:=blk_below HBK2.out hb6;have HE6:=Lib.hid he6;clear he6 hb6;obtain ⟨k0,k1,k2,k3,k4⟩:=cells5 hblk;obtain ⟨f0,f1,f2,f3,f4⟩:=frozen5 hblk;have HK:=Lib.hid hblk;clear hblk;go_wp2;refine bodyPost_ret (results_ct rfl _ _ w.heap.size 24 _ (0,0) _ rfl (put5 _ _ _ _ _ HK.out) Tryd.underlying24 rfl (by kernel_rfl)) rfl ⟨?_,below5 _ _ _ _ _ HB9.out (Nat.le_refl _)⟩;rw [HP.out,HT.out];exact ⟨v,rfl,HE6.out.put5 _ _ _ _ HK.out⟩
    have b45:(bt s (p:Int) == 45)=false:=beq_eq_false_iff_ne.2 h45;by_cases hdig:Pure.isDig (bt s (p:Int))
    ·have HDT:=Lib.hid (show lex_digit.f (bt s (p:Int))=some true by rw [digit_some];simp [Pure.digB,hdig]);have HT:=Lib.hid (tokAt_num p (bt s (p:Int)) ((bytesOf s).drop (p+1)) h34 hlet (.inr hdig));rw [← HX.out] at HT;clear hlet h34 h45 hdig;(go_wp2_with fail);refine (lex_letter.calls 4 _ _ _ _ HLF.out).mono ?_;rintro e w3 ⟨rfl,hd⟩;have hd':=drawn_below hd;replace HB2:=Lib.hid (below_then HB2.out HB2.out.size hd');replace HBK2:=Lib.hid (blk_below HBK2.out hd');replace HK6:=Lib.hid (blk_below HK6.out hd');clear hd hd';(go_wp2_with fail);refine (lex_digit.calls _ _ _ HDT.out).mono ?_;rintro e w4 ⟨rfl,hd⟩;have hd':=drawn_below hd;replace HB2:=Lib.hid (below_then HB2.out HB2.out.size hd');replace HBK2:=Lib.hid (blk_below HBK2.out hd');replace HK6:=Lib.hid (blk_below HK6.out hd');clear hd hd';go_wp2;go_loopg [] (s.size - (p+1)) (fun k wr=>∃ q:Nat,p+1≤q∧q≤s.size∧p+1+Pure.lead Pure.digB ((bytesOf s).drop (p+1))=q+Pure.lead Pure.digB ((bytesOf s).drop q)∧Below w.heap.size w wr∧wr.heap[w.heap.size]? = some (.cells z24 24 (0,0))∧wr.heap[g6]? = some (.cells #[.int .i64 0,.int .i64 (p:Int),.int .i64 ((q:Nat):Int),.int .i64 0,.string ⟨#[]⟩] 24 (0,0))∧k+q=s.size)
     case atStart=>exact ⟨p+1,Nat.le_refl _,by omega,rfl,HB2.out,HBK2.out,by rw [HK6.out];push_cast;rfl,by omega⟩
     case round=>
      clear HB2 HBK2 HK6;obtain ⟨q,hpq,hq,hl,hB,hBK,hK6,hk⟩:=hrel;have HB2:=Lib.hid hB;have HBK2:=Lib.hid hBK;have HK6:=Lib.hid hK6;have HL:=Lib.hid hl;clear hB hBK hK6 hl;have hx:=bt_nat s q;have k2:=(blk_cell HK6.out 2).trans (show _=some (.int .i64 ((q:Nat):Int)) from rfl);have f2:=blk_frozen HK6.out 2;by_cases hlt:(q:Int) < (s.size:Int)
      ·(have hql:q < s.size:=by omega);cases hc:Pure.digB (bt s (q:Int)) with
       | true=>
        have HN:=Lib.hid (show lex_digit.f (bt s (q:Int))=some true by rw [digit_some,hc]);have HL2:=Lib.hid (HL.out.trans (show q+Pure.lead Pure.digB ((bytesOf s).drop q)=(q+1)+Pure.lead Pure.digB ((bytesOf s).drop (q+1)) by rw [lead_in _ s hql hc];omega));clear hc;(go_wp2_with fail);refine (lex_digit.calls (bt s (q:Int)) _ _ HN.out).mono ?_;rintro e w4 ⟨rfl,hd⟩;have hd':=drawn_below hd;replace HB2:=Lib.hid (below_then HB2.out HB2.out.size hd');replace HBK2:=Lib.hid (blk_below HBK2.out hd');replace HK6:=Lib.hid (blk_below HK6.out hd');clear hd hd';clear k2 f2;have k2:=(blk_cell HK6.out 2).trans (show _=some (.int .i64 ((q:Nat):Int)) from rfl);have f2:=blk_frozen HK6.out 2;go_wp2;go_roundg (gk - 1)
        case measure=>omega
        case rel=>exact ⟨q+1,by omega,by omega,HL2.out,below_set HB2.out (Nat.le_of_lt hg6),blk_far HBK2.out (show w.heap.size ≠ g6 by omega) _,blk_put HK6.out 2 _ (by push_cast;rfl),by omega⟩
       | false=>
        have HN:=Lib.hid (show lex_digit.f (bt s (q:Int))=some false by rw [digit_some,hc]);have HQ:=Lib.hid (HL.out.trans (by rw [lead_out _ s hql hc];rfl):p+1+Pure.lead Pure.digB ((bytesOf s).drop (p+1))=q);clear hc HL;(go_wp2_with fail);refine (lex_digit.calls (bt s (q:Int)) _ _ HN.out).mono ?_;rintro e w4 ⟨rfl,hd⟩;have hd':=drawn_below hd;replace HB2:=Lib.hid (below_then HB2.out HB2.out.size hd');replace HBK2:=Lib.hid (blk_below HBK2.out hd');replace HK6:=Lib.hid (blk_below HK6.out hd');clear hd hd';clear k2 f2;have k2:=(blk_cell HK6.out 2).trans (show _=some (.int .i64 ((q:Nat):Int)) from rfl);have f2:=blk_frozen HK6.out 2;(have hle:(p:Int)≤(q:Int):=by omega);(have hqs:(q:Int)≤(s.size:Int):=by omega);obtain ⟨kp,hpz⟩:=Pure.num_Parse_ev (s.extract p q) (by simp;omega);have hpz:=hpz kp (Nat.le_refl _);rw [← HQ.out,bytes_word s p _ (by have:=HQ.out;omega),HQ.out] at hpz;generalize Pure.parseS (bt s (p:Int) :: ((bytesOf s).drop (p+1)).take (Pure.lead Pure.digB ((bytesOf s).drop (p+1))))=v at *
        obtain ⟨n,c⟩:=v;have HPZ:=Lib.hid hpz;clear hpz;by_cases hc0:c=0
        ·subst hc0;have HT:=Lib.hid (HT.out.trans (show numQ p (Pure.lead Pure.digB ((bytesOf s).drop (p+1))) (n,0) = .inl ⟨3,p,q,n,[]⟩ by unfold numQ;rw [if_pos rfl,HQ.out]));(go_wp2_with fail);refine (num_Parse.calls kp _ _ _ _ HPZ.out).mono ?_;rintro e w5 ⟨rfl,hd⟩;have hd':=drawn_below hd;replace HB2:=Lib.hid (below_then HB2.out HB2.out.size hd');replace HBK2:=Lib.hid (blk_below HBK2.out hd');replace HK6:=Lib.hid (blk_below HK6.out hd');clear hd hd' k2 f2;have k0:=(blk_cell HK6.out 0).trans (show _=some (.int .i64 0) from rfl);have k3:=(blk_cell HK6.out 3).trans (show _=some (.int .i64 0) from rfl);have f0:=blk_frozen HK6.out 0;have f3:=blk_frozen HK6.out 3;(go_upto_region 25 with (fail));have HY8:=Lib.hid (show ((w5.setCell ⟨g6,0,none⟩ (.int .i64 3)).setCell ⟨g6,3,none⟩ (.int .i64 n)).heap[g6]? = some (.cells #[.int .i64 3,.int .i64 (p:Int),.int .i64 (q:Int),.int .i64 n,.string ⟨#[]⟩] 24 (0,0)) from blk_put (cs:=#[.int .i64 3,.int .i64 (p:Int),.int .i64 (q:Int),.int .i64 0,.string ⟨#[]⟩]) (blk_put HK6.out 0 _ rfl) 3 _ rfl);have HB9:=Lib.hid (show Below w.heap.size w ((w5.setCell ⟨g6,0,none⟩ (.int .i64 3)).setCell ⟨g6,3,none⟩ (.int .i64 n)) from below_set (below_set HB2.out (Nat.le_of_lt hg6)) (Nat.le_of_lt hg6));have HBK9:=Lib.hid (show ((w5.setCell ⟨g6,0,none⟩ (.int .i64 3)).setCell ⟨g6,3,none⟩ (.int .i64 n)).heap[w.heap.size]? = some (.cells z24 24 (0,0)) from blk_far (blk_far HBK2.out (p:=⟨g6,0,none⟩) (show w.heap.size ≠ g6 by omega) _) (p:=⟨g6,3,none⟩) (show w.heap.size ≠ g6 by omega) _);clear k0 k3 f0 f3;generalize ((w5.setCell ⟨g6,0,none⟩ (.int .i64 3)).setCell ⟨g6,3,none⟩ (.int .i64 n))=w8 at *
         obtain ⟨c0,c1,c2,c3,c4⟩:=cells5 HY8.out;have hblk:=HBK9.out;obtain ⟨k0,k1,k2,k3,k4⟩:=cells5 hblk;obtain ⟨f0,f1,f2,f3,f4⟩:=frozen5 hblk;have HK:=Lib.hid hblk;clear hblk;go_wp2;refine bodyPost_ret (results_ct rfl _ _ w.heap.size 24 _ (0,0) _ rfl (put5 _ _ _ _ _ HK.out) Tryd.underlying24 rfl (by kernel_rfl)) rfl ⟨?_,below5 _ _ _ _ _ HB9.out (Nat.le_refl _)⟩;rw [HP.out,HT.out];rfl
        ·skip;have b0:(c == 0)=false:=beq_eq_false_iff_ne.2 hc0;have HT:=Lib.hid (HT.out.trans (show numQ p (Pure.lead Pure.digB ((bytesOf s).drop (p+1))) (n,c) = .inr (p,c) by unfold numQ;rw [if_neg hc0]));have HC0:=Lib.hid hc0;clear hc0;(go_wp2_with fail);refine (num_Parse.calls kp _ _ _ _ HPZ.out).mono ?_;rintro e w5 ⟨rfl,hd⟩;have hd':=drawn_below hd;replace HB2:=Lib.hid (below_then HB2.out HB2.out.size hd');replace HBK2:=Lib.hid (blk_below HBK2.out hd');clear hd hd' k2 f2;(go_wp2_with fail);refine (new_calls c (p:Int) _ HC0.out).mono ?_;rintro e w6 ⟨v,rfl,he6,hb6⟩;have HB9:=Lib.hid (below_then HB2.out HB2.out.size hb6);have hblk:=blk_below HBK2.out hb6;have HE6:=Lib.hid he6;clear he6 hb6;obtain ⟨k0,k1,k2,k3,k4⟩:=cells5 hblk;obtain ⟨f0,f1,f2,f3,f4⟩:=frozen5 hblk;have HK:=Lib.hid hblk;clear hblk;go_wp2;refine bodyPost_ret (results_ct rfl _ _ w.heap.size 24 _ (0,0) _ rfl (put5 _ _ _ _ _ HK.out) Tryd.underlying24 rfl (by kernel_rfl)) rfl ⟨?_,below5 _ _ _ _ _ HB9.out (Nat.le_refl _)⟩;rw [HP.out,HT.out];exact ⟨v,rfl,HE6.out.put5 _ _ _ _ HK.out⟩
      ·have HQ:=Lib.hid (HL.out.trans (by rw [lead_end _ s (by omega)];rfl):p+1+Pure.lead Pure.digB ((bytesOf s).drop (p+1))=q);clear HL;(have hle:(p:Int)≤(q:Int):=by omega);(have hqs:(q:Int)≤(s.size:Int):=by omega);obtain ⟨kp,hpz⟩:=Pure.num_Parse_ev (s.extract p q) (by simp;omega);have hpz:=hpz kp (Nat.le_refl _);rw [← HQ.out,bytes_word s p _ (by have:=HQ.out;omega),HQ.out] at hpz;generalize Pure.parseS (bt s (p:Int) :: ((bytesOf s).drop (p+1)).take (Pure.lead Pure.digB ((bytesOf s).drop (p+1))))=v at *
       obtain ⟨n,c⟩:=v;have HPZ:=Lib.hid hpz;clear hpz;by_cases hc0:c=0
       ·subst hc0;have HT:=Lib.hid (HT.out.trans (show numQ p (Pure.lead Pure.digB ((bytesOf s).drop (p+1))) (n,0) = .inl ⟨3,p,q,n,[]⟩ by unfold numQ;rw [if_pos rfl,HQ.out]));(go_wp2_with fail);refine (num_Parse.calls kp _ _ _ _ HPZ.out).mono ?_;rintro e w5 ⟨rfl,hd⟩;have hd':=drawn_below hd;replace HB2:=Lib.hid (below_then HB2.out HB2.out.size hd');replace HBK2:=Lib.hid (blk_below HBK2.out hd');replace HK6:=Lib.hid (blk_below HK6.out hd');clear hd hd' k2 f2;have k0:=(blk_cell HK6.out 0).trans (show _=some (.int .i64 0) from rfl);have k3:=(blk_cell HK6.out 3).trans (show _=some (.int .i64 0) from rfl);have f0:=blk_frozen HK6.out 0;have f3:=blk_frozen HK6.out 3;(go_upto_region 25 with (fail));have HY8:=Lib.hid (show ((w5.setCell ⟨g6,0,none⟩ (.int .i64 3)).setCell ⟨g6,3,none⟩ (.int .i64 n)).heap[g6]? = some (.cells #[.int .i64 3,.int .i64 (p:Int),.int .i64 (q:Int),.int .i64 n,.string ⟨#[]⟩] 24 (0,0)) from blk_put (cs:=#[.int .i64 3,.int .i64 (p:Int),.int .i64 (q:Int),.int .i64 0,.string ⟨#[]⟩]) (blk_put HK6.out 0 _ rfl) 3 _ rfl);have HB9:=Lib.hid (show Below w.heap.size w ((w5.setCell ⟨g6,0,none⟩ (.int .i64 3)).setCell ⟨g6,3,none⟩ (.int .i64 n)) from below_set (below_set HB2.out (Nat.le_of_lt hg6)) (Nat.le_of_lt hg6));have HBK9:=Lib.hid (show ((w5.setCell ⟨g6,0,none⟩ (.int .i64 3)).setCell ⟨g6,3,none⟩ (.int .i64 n)).heap[w.heap.size]? = some (.cells z24 24 (0,0)) from blk_far (blk_far HBK2.out (p:=⟨g6,0,none⟩) (show w.heap.size ≠ g6 by omega) _) (p:=⟨g6,3,none⟩) (show w.heap.size ≠ g6 by omega) _);clear k0 k3 f0 f3;generalize ((w5.setCell ⟨g6,0,none⟩ (.int .i64 3)).setCell ⟨g6,3,none⟩ (.int .i64 n))=w8 at *
        obtain ⟨c0,c1,c2,c3,c4⟩:=cells5 HY8.out;have hblk:=HBK9.out;obtain ⟨k0,k1,k2,k3,k4⟩:=cells5 hblk;obtain ⟨f0,f1,f2,f3,f4⟩:=frozen5 hblk;have HK:=Lib.hid hblk;clear hblk;go_wp2;refine bodyPost_ret (results_ct rfl _ _ w.heap.size 24 _ (0,0) _ rfl (put5 _ _ _ _ _ HK.out) Tryd.underlying24 rfl (by kernel_rfl)) rfl ⟨?_,below5 _ _ _ _ _ HB9.out (Nat.le_refl _)⟩;rw [HP.out,HT.out];rfl
       ·skip;have b0:(c == 0)=false:=beq_eq_false_iff_ne.2 hc0;have HT:=Lib.hid (HT.out.trans (show numQ p (Pure.lead Pure.digB ((bytesOf s).drop (p+1))) (n,c) = .inr (p,c) by unfold numQ;rw [if_neg hc0]));have HC0:=Lib.hid hc0;clear hc0;(go_wp2_with fail);refine (num_Parse.calls kp _ _ _ _ HPZ.out).mono ?_;rintro e w5 ⟨rfl,hd⟩;have hd':=drawn_below hd;replace HB2:=Lib.hid (below_then HB2.out HB2.out.size hd');replace HBK2:=Lib.hid (blk_below HBK2.out hd');clear hd hd' k2 f2;(go_wp2_with fail);refine (new_calls c (p:Int) _ HC0.out).mono ?_;rintro e w6 ⟨v,rfl,he6,hb6⟩;have HB9:=Lib.hid (below_then HB2.out HB2.out.size hb6);have hblk:=blk_below HBK2.out hb6;have HE6:=Lib.hid he6;clear he6 hb6;obtain ⟨k0,k1,k2,k3,k4⟩:=cells5 hblk;obtain ⟨f0,f1,f2,f3,f4⟩:=frozen5 hblk;have HK:=Lib.hid hblk;clear hblk;go_wp2;refine bodyPost_ret (results_ct rfl _ _ w.heap.size 24 _ (0,0) _ rfl (put5 _ _ _ _ _ HK.out) Tryd.underlying24 rfl (by kernel_rfl)) rfl ⟨?_,below5 _ _ _ _ _ HB9.out (Nat.le_refl _)⟩;rw [HP.out,HT.out];exact ⟨v,rfl,HE6.out.put5 _ _ _ _ HK.out⟩
    ·have HDF:=Lib.hid (show lex_digit.f (bt s (p:Int))=some false by rw [digit_some];simp [Pure.digB,hdig]);have HT:=Lib.hid (tokAt_sign p (bt s (p:Int)) ((bytesOf s).drop (p+1)) h34 hlet (by rintro (h|h);exact h45 h;exact hdig h));rw [← HX.out] at HT;clear hlet h34 h45 hdig;(go_wp2_with fail);refine (lex_letter.calls 4 _ _ _ _ HLF.out).mono ?_;rintro e w3 ⟨rfl,hd⟩;have hd':=drawn_below hd;replace HB2:=Lib.hid (below_then HB2.out HB2.out.size hd');replace HBK2:=Lib.hid (blk_below HBK2.out hd');replace HK6:=Lib.hid (blk_below HK6.out hd');clear hd hd';(go_wp2_with fail);refine (lex_digit.calls _ _ _ HDF.out).mono ?_;rintro e w4 ⟨rfl,hd⟩;have hd':=drawn_below hd;replace HB2:=Lib.hid (below_then HB2.out HB2.out.size hd');replace HBK2:=Lib.hid (blk_below HBK2.out hd');replace HK6:=Lib.hid (blk_below HK6.out hd');clear hd hd';(go_wp2_with fail);refine (sign_calls s p _ (HS.out.below HB2.out (Nat.le_refl _)) hsz hp).mono ?_;rintro e w3 ⟨hpost,hb3⟩;have HB3:=Lib.hid (below_then HB2.out HB2.out.size hb3);have hblk:=blk_below HBK2.out hb3;obtain ⟨k0,k1,k2,k3,k4⟩:=cells5 hblk;obtain ⟨f0,f1,f2,f3,f4⟩:=frozen5 hblk;have HK:=Lib.hid hblk;clear hblk;clear hb3;obtain ⟨res,hres⟩:∃ r,r=signR p ((bytesOf s).drop p):=⟨_,rfl⟩;rw [← hres] at hpost;have HRES:=Lib.hid (HT.out.trans hres.symm);clear hres;cases res with
     | inl t=>
      unfold NextPost at hpost;dsimp only at hpost;subst hpost;unfold tokV;go_wp2;refine bodyPost_ret (results_ct rfl _ _ w.heap.size 24 _ (0,0) _ rfl (put5 _ _ _ _ _ HK.out) Tryd.underlying24 rfl (by kernel_rfl)) rfl ⟨?_,below5 _ _ _ _ _ HB3.out (Nat.le_refl _)⟩;rw [HP.out,HRES.out];rfl
     | inr qc=>
      obtain ⟨q,c⟩:=qc;obtain ⟨v,rfl,he⟩:=hpost;have HE:=Lib.hid he;clear he;unfold tok0V;go_wp2;refine bodyPost_ret (results_ct rfl _ _ w.heap.size 24 _ (0,0) _ rfl (put5 _ _ _ _ _ HK.out) Tryd.underlying24 rfl (by kernel_rfl)) rfl ⟨?_,below5 _ _ _ _ _ HB3.out (Nat.le_refl _)⟩;rw [HP.out,HRES.out];exact ⟨v,rfl,HE.out.put5 _ _ _ _ HK.out⟩
  ·(have hps:p=s.size:=by omega);(have hp2:a+Pure.lead Pure.blank ((bytesOf s).drop a)=p:=by rw [hl,lead_end _ s (by omega)];rfl);have HP:=Lib.hid (nextS_at (bytesOf s) a p hp2);have HT:=Lib.hid (show Pure.tokAt p ((bytesOf s).drop p) = .inl ⟨0,p,p,0,[]⟩ by rw [Pure.bytes_end s (by omega)];rfl);(have hpeq:((p:Int) == (s.size:Int))=true:=by rw [hps];exact beq_self_eq_true _);have HBK1:=Lib.hid hblk;have HB1:=Lib.hid hB;clear hl hblk hB hp2 hps;(go_upto_region 6 with (fail));have hK:=blk_new wr (.cells #[.int .i64 0,.int .i64 (p:Int),.int .i64 ((p:Int)+1),.int .i64 0,.string ⟨#[]⟩] 24);have hb:=below_alloc (Below.refl wr.heap.size wr) (.cells #[.int .i64 0,.int .i64 (p:Int),.int .i64 ((p:Int)+1),.int .i64 0,.string ⟨#[]⟩] 24);have hg6:w.heap.size < wr.heap.size:=blk_lt HBK1.out;have HB2:=Lib.hid (below_then HB1.out HB1.out.size hb);have HBK2:=Lib.hid (blk_below HBK1.out hb);have HK6:=Lib.hid hK;clear hK hb HBK1 HB1;generalize (wr.alloc (.cells #[.int .i64 0,.int .i64 (p:Int),.int .i64 ((p:Int)+1),.int .i64 0,.string ⟨#[]⟩] 24))=w1 at *
   generalize wr.heap.size=g6 at *
   have k2:=(blk_cell HK6.out 2).trans (show _=some (.int .i64 ((p:Int)+1)) from rfl);have f2:=blk_frozen HK6.out 2;(go_upto_region 8 with (fail));have HY8:=Lib.hid (show (w1.setCell ⟨g6,2,none⟩ (.int .i64 (p:Int))).heap[g6]? = some (.cells #[.int .i64 0,.int .i64 (p:Int),.int .i64 (p:Int),.int .i64 0,.string ⟨#[]⟩] 24 (0,0)) from blk_put HK6.out 2 _ rfl);have HB9:=Lib.hid (show Below w.heap.size w (w1.setCell ⟨g6,2,none⟩ (.int .i64 (p:Int))) from below_set HB2.out (Nat.le_of_lt hg6));have HBK9:=Lib.hid (show (w1.setCell ⟨g6,2,none⟩ (.int .i64 (p:Int))).heap[w.heap.size]? = some (.cells z24 24 (0,0)) from blk_far HBK2.out (p:=⟨g6,2,none⟩) (show w.heap.size ≠ g6 by omega) _);clear k2 f2;generalize (w1.setCell ⟨g6,2,none⟩ (.int .i64 (p:Int)))=w8 at *
   obtain ⟨c0,c1,c2,c3,c4⟩:=cells5 HY8.out;have hblk:=HBK9.out;obtain ⟨k0,k1,k2,k3,k4⟩:=cells5 hblk;obtain ⟨f0,f1,f2,f3,f4⟩:=frozen5 hblk;have HK:=Lib.hid hblk;clear hblk;go_wp2;refine bodyPost_ret (results_ct rfl _ _ w.heap.size 24 _ (0,0) _ rfl (put5 _ _ _ _ _ HK.out) Tryd.underlying24 rfl (by kernel_rfl)) rfl ⟨?_,below5 _ _ _ _ _ HB9.out (Nat.le_refl _)⟩;rw [HP.out,HT.out];rfl
set_option maxRecDepth 100000 in
set_option maxHeartbeats 2000000 in
theorem next_low (s:ByteArray) (a:Int) (w:World) (ha:a < 0) :
  Calls Tryd.prog 16 #[.string s,.int .i64 a] w fun e w'=>NextPost (.inr (0,1)) e w'∧Below w.heap.size w w':=by
 (go_enter Tryd.func16,Tryd.ntmps16);(go_wp2_with fail);refine (new_calls 1 0 _ (by decide)).mono ?_;rintro e w1 ⟨v,rfl,he,hb⟩;have HB1:=Lib.hid (below_then (below_alloc (Below.refl w.heap.size w) (.cells z24 24)) (below_alloc (Below.refl w.heap.size w) (.cells z24 24)).size hb);have hblk:=blk_below (blk_new w (.cells z24 24)) hb;have HE:=Lib.hid he;clear he hb;obtain ⟨k0,k1,k2,k3,k4⟩:=cells5 hblk;obtain ⟨f0,f1,f2,f3,f4⟩:=frozen5 hblk;have HK:=Lib.hid hblk;clear hblk;go_wp2;refine bodyPost_ret (results_ct rfl _ _ w.heap.size 24 _ (0,0) _ rfl (put5 _ _ _ _ _ HK.out) Tryd.underlying24 rfl (by kernel_rfl)) rfl ⟨?_,below5 _ _ _ _ _ HB1.out (Nat.le_refl _)⟩;exact ⟨v,rfl,HE.out.put5 _ _ _ _ HK.out⟩
set_option maxRecDepth 100000 in
set_option maxHeartbeats 2000000 in
theorem next_high (s:ByteArray) (a:Int) (w:World) (ha:a > (s.size:Int)) :
  Calls Tryd.prog 16 #[.string s,.int .i64 a] w fun e w'=>NextPost (.inr (0,1)) e w'∧Below w.heap.size w w':=by
 (have h0:¬ (a < 0):=by omega);(go_enter Tryd.func16,Tryd.ntmps16);(go_wp2_with fail);refine (new_calls 1 0 _ (by decide)).mono ?_;rintro e w1 ⟨v,rfl,he,hb⟩;have HB1:=Lib.hid (below_then (below_alloc (Below.refl w.heap.size w) (.cells z24 24)) (below_alloc (Below.refl w.heap.size w) (.cells z24 24)).size hb);have hblk:=blk_below (blk_new w (.cells z24 24)) hb;have HE:=Lib.hid he;clear he hb;obtain ⟨k0,k1,k2,k3,k4⟩:=cells5 hblk;obtain ⟨f0,f1,f2,f3,f4⟩:=frozen5 hblk;have HK:=Lib.hid hblk;clear hblk;go_wp2;refine bodyPost_ret (results_ct rfl _ _ w.heap.size 24 _ (0,0) _ rfl (put5 _ _ _ _ _ HK.out) Tryd.underlying24 rfl (by kernel_rfl)) rfl ⟨?_,below5 _ _ _ _ _ HB1.out (Nat.le_refl _)⟩;exact ⟨v,rfl,HE.out.put5 _ _ _ _ HK.out⟩
theorem next_calls (s:ByteArray) (a:Int) (w:World) (hs:Signs w) (hsz:s.size≤140737488351232) :
  Calls Tryd.prog 16 #[.string s,.int .i64 a] w fun e w'=>NextPost (nextI (bytesOf s) a) e w'∧Below w.heap.size w w':=by
 unfold nextI;rw [bytesOf_length];by_cases h0:a < 0
 ·rw [if_pos (.inl h0)];exact next_low s a w h0
 ·by_cases h1:a > (s.size:Int)
  ·rw [if_pos (.inr h1)];exact next_high s a w h1
  ·rw [if_neg (by rintro (h|h);exact h0 h;exact h1 h)];obtain ⟨n,rfl⟩:=Int.eq_ofNat_of_zero_le (show 0≤a by omega);exact next_in s n w hs hsz (by omega)
end Go.Proofs.YtkbjblhompkdkaaDoor
namespace Go.Proofs.YtkbjblhompkdkaaDoor
open Go.RowKit Go.Proofs.YtkbjblhompkdkaaDoor.PA Go.Proofs.YtkbjblhompkdkaaDoorW.PrintWords Go.Proofs.YtkbjblhompkdkaaDoorW.PrintLast
set_option linter.unusedVariables false
set_option linter.unusedSimpArgs false
def tokS (t:Pure.Tok):S24:=⟨t.kind,(t.at_:Int),(t.end_:Int),t.n,strOfNums t.text⟩
def allR (l:List Int):List Pure.Tok ⊕ (Nat × Int):=if l.length > 1048576 then .inr (0,14) else Pure.allS l 0
def AllPost (r:List Pure.Tok ⊕ (Nat × Int)) (e:Ending) (w':World):Prop:=
 match r with
 | .inl ts=>∃ A c,e = .returned (.tuple #[.slice A ts.length c,.nilIface])∧ts.length≤c∧Kd.C k24 w' A ts.length (ts.map tokS)
 | .inr (p,c)=>∃ v,e = .returned (.tuple #[.slice none 0 0,v])∧Err w' v [(p:Int)] (some c)
def preT (l1:List Pure.Tok):List Pure.Tok ⊕ (Nat × Int)→List Pure.Tok ⊕ (Nat × Int)
 | .inl ts=>.inl (l1++ts)
 | .inr e=>.inr e
theorem info24:(Tryd.prog.info? 24).map (fun i=>(i.zero,i.size,i.bytes))=some (some (.agg #[.int .i64 0,.int .i64 0,.int .i64 0,.int .i64 0,.string ⟨#[]⟩]),5,48):=by kernel_rfl
set_option maxRecDepth 100000 in
set_option maxHeartbeats 8000000 in
theorem all_calls (s:ByteArray) (w:World) (hs:Signs w) (hsz:s.size≤140737488351232) :
  Calls Tryd.prog 19 #[.string s] w fun e w'=>AllPost (allR (bytesOf s)) e w'∧Below w.heap.size w w':=by
 have HS:=Lib.hid hs;clear hs;by_cases hbig:(s.size:Int) > 1048576
 ·have HR:=Lib.hid (show allR (bytesOf s) = .inr (0,14) by unfold allR;rw [if_pos (by rw [bytesOf_length];omega)]);(go_enter Tryd.func19,Tryd.ntmps19);(go_wp2_with fail);refine (new_calls 14 0 w (by decide)).mono ?_;rintro e w1 ⟨v,rfl,he,hb⟩;have HE:=Lib.hid he;have HB:=Lib.hid hb;clear he hb;go_wp2;go_ret2;rw [HR.out];exact ⟨⟨v,rfl,HE.out⟩,HB.out⟩
 have HR:=Lib.hid (show allR (bytesOf s)=Pure.allS (bytesOf s) 0 by unfold allR;rw [if_neg (by rw [bytesOf_length];omega)]);have hlen:(bytesOf s).length=s.size:=bytesOf_length s;(go_enter Tryd.func19,Tryd.ntmps19);go_wp2;go_loopg [4,5] (s.size+1) (fun k vo va wr=>∃ (l1:List Pure.Tok) (a:Nat),va = .int .i64 (a:Int)∧a≤s.size∧k+a=s.size+1∧l1.length≤a∧Pure.allS (bytesOf s) 0=preT l1 (Pure.allS (bytesOf s) a)∧Below w.heap.size w wr∧Kd.R k24 24 wr w.heap.size (fun _=>True) vo (l1.map tokS))
 case atStart=>exact ⟨[],0,rfl,Nat.zero_le _,rfl,Nat.le_refl _,by cases Pure.allS (bytesOf s) 0 <;> rfl,Below.refl _ _,Kd.R_nil _ _ _ _ _⟩
 case round=>
  obtain ⟨l1,a,rfl,ha,hk,hla,hall,hB,hR⟩:=hrel;have HB:=Lib.hid hB;have HO:=Lib.hid hR;have HA:=Lib.hid hall;clear hB hR hall;(go_wp2_with fail);refine (next_calls s (a:Int) wr (HS.out.below HB.out (Nat.le_refl _)) hsz).mono ?_;rintro e w1 ⟨hpost,hb1⟩;have HB1:=Lib.hid (below_then HB.out HB.out.size hb1);have HO1:=Lib.hid (Kd.R_below HO.out hb1);clear hb1;rw [show nextI (bytesOf s) (a:Int)=Pure.nextS (bytesOf s) a by unfold nextI;rw [if_neg (by rw [hlen];omega)];rfl] at hpost;have HST:=Lib.hid (Pure.allS_step (bytesOf s) (a:=a) (by rw [hlen];exact ha));obtain ⟨res,hres⟩:∃ r,Pure.nextS (bytesOf s) a=r:=⟨_,rfl⟩;rw [hres] at hpost;have HRES:=Lib.hid hres;clear hres;cases res with
  | inl t=>
   have hok:=Pure.nextS_ok (by rw [hlen];exact ha) HRES.out;rw [hlen] at hok;unfold NextPost at hpost;dsimp only at hpost;subst hpost;unfold tokV;by_cases h0:t.kind=0
   ·have HEND:=Lib.hid (show Pure.allS (bytesOf s) 0 = .inl l1 by rw [HA.out,HST.out,HRES.out];simp [h0,preT]);have b0:(t.kind == 0)=true:=beq_iff_eq.2 h0;have HB2:=Lib.hid (below_alloc HB1.out (.cells #[.int .i64 t.kind,.int .i64 (t.at_:Int),.int .i64 (t.end_:Int),.int .i64 t.n,.string (strOfNums t.text)] 24));have HO2:=Lib.hid (Kd.R_alloc HO1.out (.cells #[.int .i64 t.kind,.int .i64 (t.at_:Int),.int .i64 (t.end_:Int),.int .i64 t.n,.string (strOfNums t.text)] 24));clear hok h0 HB1 HO1 HA HST HRES;go_wp2;go_ret2;obtain ⟨A,c,rfl,hc,hC⟩:=Kd.R_reads HO2.out;rw [HR.out,HEND.out];rw [List.length_map] at hc hC;exact ⟨⟨A,c,by rw [List.length_map];rfl,hc,hC⟩,HB2.out⟩
   ·have b0:(t.kind == 0)=false:=beq_eq_false_iff_ne.2 h0;have HOK:=Lib.hid (show a < t.end_∧t.end_≤s.size from ⟨by have h1:=hok.2.2.2.2 h0;have h2:=hok.1;omega,hok.2.1⟩);have HNX:=Lib.hid (show Pure.allS (bytesOf s) 0=preT (l1++[t]) (Pure.allS (bytesOf s) t.end_) by
     rw [HA.out,HST.out,HRES.out];simp only [h0,if_false];cases Pure.allS (bytesOf s) t.end_ <;> simp [preT])
    have hK6:=blk_new w1 (.cells #[.int .i64 t.kind,.int .i64 (t.at_:Int),.int .i64 (t.end_:Int),.int .i64 t.n,.string (strOfNums t.text)] 24);have HB2:=Lib.hid (below_alloc HB1.out (.cells #[.int .i64 t.kind,.int .i64 (t.at_:Int),.int .i64 (t.end_:Int),.int .i64 t.n,.string (strOfNums t.text)] 24));have HO2:=Lib.hid (Kd.R_alloc (Kd.R_elderB HO1.out w1.heap.size (Nat.le_refl _)) (.cells #[.int .i64 t.kind,.int .i64 (t.at_:Int),.int .i64 (t.end_:Int),.int .i64 t.n,.string (strOfNums t.text)] 24));have HK6:=Lib.hid hK6;clear hok h0 HB1 HO1 HA HST HRES hK6;(go_upto_region 6 with (fail));generalize (w1.alloc (.cells #[.int .i64 t.kind,.int .i64 (t.at_:Int),.int .i64 (t.end_:Int),.int .i64 t.n,.string (strOfNums t.text)] 24))=w2 at *
    generalize w1.heap.size=g6 at *
    obtain ⟨k0,k1,k2,k3,k4⟩:=cells5 HK6.out;have HNE:=Lib.hid (Kd.R_away HO2.out (fun k hk=>hk.2));have hmap:(l1.map tokS).length=l1.length:=List.length_map _;have HLL:=Lib.hid (show l1.length≤1048576 by omega);go_wp2_with (first|((with_reducible refine gate_builtin (b:=.append) (xs:=#[.tmp 25,.tmp 27]) rfl ?_);at_builtin;refine Kd.R_append k24 (w0:=w) w.heap.size rfl (.tmp 25) (.tmp 27) 34 24 (.agg #[.int .i64 0,.int .i64 0,.int .i64 0,.int .i64 0,.string ⟨#[]⟩]) 48 rfl Tryd.underlying34 info24 rfl (by decide) (by omega) u4 (l1.map tokS) (tokS t) [.int .i64 t.kind,.int .i64 (t.at_:Int),.int .i64 (t.end_:Int),.int .i64 t.n,.string (strOfNums t.text)] (fun k_=>k_ ≠ g6) (fun _=>False) rfl (by first|(go_simp;done)|(go_simp;rfl)) ?aP (fun _ hk=>hk.elim) ?aF ?aO ?aB ?aS ?aL ?_;(case aP=>exact k24_mkM _ _ _ (tokS t));(case aB=>exact HB2.out);(case aF=>exact (fun k_ hk=>Kd.freshB (g:=g6) HK6.out k_ hk));(case aO=>exact Kd.R_mono HO2.out (fun k hk=>hk.2));(case aS=>exact HB2.out.size);(case aL=>have:=HLL.out;omega);intro v9 w9 ho hb hg hat;have HO9:=Lib.hid ho;have HB9:=Lib.hid hb;have hbk9:=blk_grown HK6.out hg HNE.out;have hc9:=(blk_cell hbk9 2).trans (show _=some (.int .i64 (t.end_:Int)) from rfl);clear hat hg ho hb hbk9));go_roundg (s.size+1 - t.end_)
    case measure=>have:=HOK.out;omega
    case rel=>
     have:=HOK.out;exact ⟨l1++[t],t.end_,rfl,by omega,by omega,by simp;omega,HNX.out,HB9.out,by rw [List.map_append];exact Kd.R_mono HO9.out (fun _ _=>trivial)⟩
  | inr qc=>
   obtain ⟨q,c⟩:=qc;obtain ⟨v,rfl,he⟩:=hpost;have HEND:=Lib.hid (show Pure.allS (bytesOf s) 0 = .inr (q,c) by rw [HA.out,HST.out,HRES.out];rfl);obtain ⟨T,x,rfl⟩:=he.iface (.inl (by simp));have HE:=Lib.hid (he.below (below_alloc (Below.refl w1.heap.size w1) (.cells #[.int .i64 0,.int .i64 0,.int .i64 0,.int .i64 0,.string ⟨#[]⟩] 24)) (Nat.le_refl _));have HB2:=Lib.hid (below_alloc HB1.out (.cells #[.int .i64 0,.int .i64 0,.int .i64 0,.int .i64 0,.string ⟨#[]⟩] 24));clear he HB1 HO1 HA HST HRES;unfold tok0V;go_wp2;go_ret2;rw [HR.out,HEND.out];exact ⟨⟨_,rfl,HE.out⟩,HB2.out⟩
end Go.Proofs.YtkbjblhompkdkaaDoor
namespace Go.Proofs.YtkbjblhompkdkaaDoor
open Go.RowKit Go.Proofs.YtkbjblhompkdkaaDoor.PA Go.Proofs.YtkbjblhompkdkaaDoorW.PrintWords Go.Proofs.YtkbjblhompkdkaaDoorW.PrintLast
set_option linter.unusedVariables false
set_option linter.unusedSimpArgs false
end Go.Proofs.YtkbjblhompkdkaaDoor
namespace Go.Proofs.YtkbjblhompkdkaaDoor.LexRow
open Go Go.ChangeShapes Go.WideShapes Go.ChangeAt Go.RowKit Go.Proofs.YtkbjblhompkdkaaDoor Go.Proofs.YtkbjblhompkdkaaDoorW.PrintWords Go.Proofs.YtkbjblhompkdkaaDoorW.PrintLast
set_option linter.unusedVariables false
def laid:List (String × DataW Unit):=[("errors.errorType",Rows.laid_errors_errorType),("placket/lex.signs",Rows.laid_placket_lex_signs)]
def laidS:List (String × DataW Unit):=[("placket/lex.signs",Rows.laid_placket_lex_signs)]
theorem own:ownKnob Tryd.prog.godebug=none:=by kernel_rfl
theorem et:Tryd.prog.globalNamed "errors.errorType" = some 1:=by kernel_rfl
theorem rt:(Tryd.prog.cutTypes.find? (·.1 == "internal/reflectlite.rtype")).map (·.2)=some 137:=by kernel_rfl
theorem oneRow:((List.range 180).filter fun t=>Tryd.prog.rowNamed t [101,114,114,111,114]) = [26]:=by kernel_rfl
theorem size:Tryd.prog.types.size=180:=by kernel_rfl
theorem handle_of_laid {W:World} (h:laidMetH Tryd.prog laid W):Laid W:=by
 have h':laidMet Tryd.prog laidS W∧handlesMet Tryd.prog [("errors.errorType",Rows.laid_errors_errorType)] W:=h;obtain ⟨name,u,ty,e1,e2,e3,e4,e5⟩:=h'.2 _ (List.mem_singleton.2 rfl);have en:name = [101,114,114,111,114]:=(Option.some.inj e1).symm;subst en;obtain rfl:=Option.some.inj (rt.symm.trans e2);have hm:ty ∈ (List.range 180).filter fun t=>Tryd.prog.rowNamed t [101,114,114,111,114]:=List.mem_filter.2 ⟨List.mem_range.2 (by rw [← size];exact e3),e4⟩;rw [oneRow] at hm;obtain rfl:=List.mem_singleton.1 hm;(have hh:typeHandle Tryd.prog 26 = .pointer (some ⟨2,26,none⟩):=by kernel_rfl);rw [hh] at e5;unfold Laid;simpa using World.var?_cell et e5 0
theorem st:Tryd.prog.globalNamed "placket/lex.signs" = some 0:=by kernel_rfl
theorem st2:(Tryd.prog.globals[(0:Nat)]?).map (·.type)=some 81:=by kernel_rfl
theorem signs_data:Rows.laid_placket_lex_signs=(DataW.agg (signsB.map fun x=>.lit (.string x.data.toList)):DataW Unit):=by kernel_rfl
theorem cells9:Tryd.prog.cellsOf 9=1:=by kernel_rfl
set_option maxRecDepth 100000 in
theorem signs_of_trod {W:World} {cs:Array Value} {fuel:Nat} {p:List MemPlace} (hv:W.var? Tryd.prog "placket/lex.signs" = some cs)
  (h:DataW.trod (fun _=>()) Tryd.prog W 0 (fun _=>true) false fuel 81 cs.toList=some (Rows.laid_placket_lex_signs,p)):Signs W:=by
 obtain ⟨xs,m,rfl,hx,hlen,hxl,hel⟩:=DataW.trod_array Tryd.underlying81 h;intro i x hi;have hi23:i < 23:=by
  have:=(List.getElem?_eq_some_iff.1 hi).1;simpa [signsB] using this
 have e:=hel i hi23;rw [cells9,Nat.mul_one] at e;have hdat:xs.map (·.1)=signsB.map fun x=>(DataW.lit (.string x.data.toList):DataW Unit):=by
  have:=congrArg Prod.fst hx;rw [signs_data] at this;injection this with h1;exact h1.symm
 obtain ⟨y,hy⟩:∃ y,xs[i]? = some y:=⟨_,List.getElem?_eq_getElem (show i < xs.length by omega)⟩;have hy1:y.1 = .lit (.string x.data.toList):=by
  have:=congrArg (·[i]?) hdat;simp only [List.getElem?_map,hy,hi,Option.map_some,Option.some.injEq] at this;exact this
 rw [hy] at e;obtain ⟨s,hs,hys,-⟩:=DataW.trod_string Tryd.underlying9 e;have hsx:s=x:=by
  rw [hys] at hy1;injection hy1 with h1;injection h1 with h2;exact ByteArray.ext (Array.toList_inj.1 h2)
 subst hsx;rw [World.var?_cell st hv i,← Array.getElem?_toList];have h0:=congrArg (·[0]?) hs;simp only [List.getElem?_take,List.getElem?_drop] at h0;simpa using h0
theorem signs_of_met {W:World} (h:laidMet Tryd.prog laidS W):Signs W:=by
 obtain ⟨ps,⟨g,t,cs,fuel,p,q,h1,h2,h3,h4,-⟩,-⟩:=h;obtain rfl:=Option.some.inj (st.symm.trans h1);obtain rfl:=Option.some.inj (st2.symm.trans h2);exact signs_of_trod h3 h4
theorem signs_of_laid {W:World} (h:laidMetH Tryd.prog laid W):Signs W:=by
 have h':laidMet Tryd.prog laidS W∧handlesMet Tryd.prog [("errors.errorType",Rows.laid_errors_errorType)] W:=h;exact signs_of_met h'.1
noncomputable def laidWorld (os:Os):World:=
 let w0:=World.holding Tryd.prog os ⟨#[],#[],[]⟩
 { w0 with heap:=(w0.heap.modify 1 fun
   | .cells _ t frozen=>.cells #[.iface 137 (.agg #[.pointer (some ⟨2,26,none⟩)])] t frozen
   | o=>o).modify 0 fun
   | .cells _ t frozen=>.cells tableV.cells t frozen
   | o=>o }
theorem laidWorld_signs (os:Os) (args:Array Value):laidMet Tryd.prog laidS ((laidWorld os).forCall (fun _ _=>0) ⟨#[],args,[]⟩).memory:=
 laidMet_of_run' 8 (by kernel_rfl) (by kernel_rfl)
theorem laidWorld_met (os:Os) (args:Array Value):laidMetH Tryd.prog laid ((laidWorld os).forCall (fun _ _=>0) ⟨#[],args,[]⟩).memory:=
 laidMetH_of_parts (laidWorld_signs os args) (by kernel_rfl)
end Go.Proofs.YtkbjblhompkdkaaDoor.LexRow

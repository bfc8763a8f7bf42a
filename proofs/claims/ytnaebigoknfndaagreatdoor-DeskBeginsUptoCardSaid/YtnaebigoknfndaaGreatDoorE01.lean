/- What the desk's two laws lean on: part 01 (contracts and plain laws; their conditions stand in each). -/
import Derived.Test.YtnaebigoknfndaaGreatDoorProg
import Derived.Below
import Derived.WalkKit
import Derived.Test.YtnaebigoknfndaaGreatDoorRows
import Derived.WalkSpells
import Derived.WalkLawsBesides
import Derived.Deep.QuietTactic
import Derived.BigQuiet
import Derived.StillTail
import Derived.Laws.BitsAllLaws
import Derived.Laws.Strings3
import Derived.Laws.ResultCell
import Derived.Deep.WholeRow
import Derived.Lib.Hide
import Derived.Deep.AppendLies
import Derived.OwnWalk
import Derived.OpenShut
import Derived.Laws.IdiomStrings
import Derived.Deep.RegionHeld3
set_option linter.unusedVariables false
set_option linter.unusedSimpArgs false
set_option maxRecDepth 100000
set_option maxHeartbeats 20000000
namespace Go.Proofs.YtnaebigoknfndaaGreatDoor
open Go Go.RowKit
theorem bAl {B:Nat} {a w:World} (h:Below B a w) (o:Obj) (hB:B≤w.heap.size:=by ((try dsimp only); (try simp only [World.size_alloc, World.size_setCell, World.size_drew]); omega)):Below B a (w.alloc o):=h.alloc hB o
theorem bSc {B:Nat} {a w:World} {p:Addr} (h:Below B a w) (u:Value) (hp:B≤p.block:=by ((try dsimp only); (try simp only [World.size_alloc, World.size_setCell, World.size_drew]); omega)):Below B a (w.setCell p u):=h.setCell hp u
theorem bTm {B B':Nat} {a b c:World} (h:Below B a b) (k:Below B' b c) (hB:B≤B':=by ((try dsimp only); (try simp only [World.size_alloc, World.size_setCell, World.size_drew]); omega)):Below B a c:=h.trans (k.mono hB)
theorem lit_of {s:ByteArray} {m:Array UInt8} {l:List UInt8} {b:Bool} (hs:s=ByteArray.mk m) (h:(m.toList==l)=b:=by rfl):(s.toList==l)=b:=by
  subst hs
  rw [ByteArray.toList_eq]
  exact h
theorem mkfun:∀ (fn:Fn) (first cap:Array Value) (w:World),(Instr.makeFunc fn first cap).run Tryz.prog w=.ok (.func fn first cap) w:=fun _ _ _ _=>rfl
end Go.Proofs.YtnaebigoknfndaaGreatDoor
namespace Go.Proofs.YtnaebigoknfndaaGreatDoor
def stp (c:Nat):Nat:=if c % 2=1 then c / 2 ^^^ 3988292384 else c / 2
def stn:Nat→Nat→Nat
 | 0,c=>c
 | n+1,c=>stn n (stp c)
theorem xor_mod2 (a b:Nat):(a ^^^ b) % 2=(a % 2+b % 2) % 2:=by
 have h:=Nat.xor_mod_two_pow (a:=a) (b:=b) (n:=1)
 rw [Nat.pow_one] at h
 rw [h]
 rcases Nat.mod_two_eq_zero_or_one a with p | p <;> rcases Nat.mod_two_eq_zero_or_one b with q | q <;> rw [p,q] <;> rfl
theorem xor_div2 (a b:Nat):(a ^^^ b) / 2=a / 2 ^^^ b / 2:=by
 have h:=Nat.shiftRight_xor_distrib (a:=a) (b:=b) (i:=1)
 simpa [Nat.shiftRight_eq_div_pow] using h
theorem xor4 (a b c d:Nat):(a ^^^ b) ^^^ (c ^^^ d)=(a ^^^ c) ^^^ (b ^^^ d):=by
 rw [Nat.xor_assoc,Nat.xor_assoc,← Nat.xor_assoc b c d,Nat.xor_comm b c,Nat.xor_assoc c b d]
theorem stp_xor (a b:Nat):stp (a ^^^ b)=stp a ^^^ stp b:=by
 unfold stp
 rw [xor_mod2,xor_div2]
 rcases Nat.mod_two_eq_zero_or_one a with p | p <;> rcases Nat.mod_two_eq_zero_or_one b with q | q <;> rw [p,q]
 ·simp
 ·simp [Nat.xor_assoc]
 ·simp only [Nat.reduceAdd,Nat.reduceMod,if_true,Nat.zero_ne_one,if_false,Nat.add_zero]
  rw [Nat.xor_assoc,Nat.xor_assoc,Nat.xor_comm (b / 2)]
 ·simp only [Nat.reduceAdd,Nat.reduceMod,if_true,Nat.zero_ne_one,if_false]
  rw [xor4,Nat.xor_self,Nat.xor_zero]
theorem stn_xor (n:Nat):∀ a b:Nat,stn n (a ^^^ b)=stn n a ^^^ stn n b:=by
 induction n with
 | zero=>intro a b;rfl
 | succ n ih=>intro a b;simp only [stn,stp_xor,ih]
theorem stn_add (m n c:Nat):stn (m+n) c=stn n (stn m c):=by
 induction m generalizing c with
 | zero=>simp [stn]
 | succ m ih=>rw [show m+1+n=(m+n)+1 by omega];simp only [stn,ih]
theorem stp_two (c:Nat):stp (c * 2)=c:=by unfold stp;rw [if_neg (by omega)];omega
theorem stn_shift (n c:Nat):stn n (c * 2 ^ n)=c:=by
 induction n with
 | zero=>simp [stn]
 | succ n ih=>simp only [stn];rw [Nat.pow_succ,← Nat.mul_assoc,stp_two,ih]
theorem xor_lt32 {a b:Nat} (ha:a<4294967296) (hb:b<4294967296):a ^^^ b<4294967296:=Nat.xor_lt_two_pow (n:=32) ha hb
theorem stp_lt {c:Nat} (h:c<4294967296):stp c<4294967296:=by
 unfold stp;split
 ·exact xor_lt32 (by omega) (by omega)
 ·omega
theorem stn_lt (n:Nat):∀ {c:Nat},c<4294967296→stn n c<4294967296:=by
 induction n with
 | zero=>intro c h;exact h
 | succ n ih=>intro c h;simp only [stn];exact ih (stp_lt h)
def crcStep (c x:Nat):Nat:=c / 256 ^^^ stn 8 (c % 256 ^^^ x)
def crcRun:Nat→List Nat→Nat
 | c,[]=>c
 | c,x :: l=>crcRun (crcStep c x) l
def crcOf (l:List Nat):Nat:=4294967295 ^^^ crcRun 4294967295 l
def Bytes (l:List Nat):Prop:=∀ x∈l,x<256
theorem Bytes.tail {x:Nat} {l:List Nat} (h:Bytes (x :: l)):Bytes l:=fun y hy=>h y (List.mem_cons_of_mem _ hy)
theorem Bytes.head {x:Nat} {l:List Nat} (h:Bytes (x :: l)):x<256:=h x List.mem_cons_self
theorem add_xor {x d:Nat} (h:x<256):x+256 * d=x ^^^ d * 2 ^ 8:=by
 apply Nat.eq_of_testBit_eq
 intro j
 have e:x+256 * d=2 ^ 8 * d+x:=by omega
 rw [e,Nat.testBit_two_pow_mul_add _ (by simpa using h),Nat.testBit_xor,Nat.mul_comm d,Nat.testBit_two_pow_mul]
 split
 ·rename_i hj;simp [show ¬ 8≤j by omega]
 ·rename_i hj
  have:x.testBit j=false:=Nat.testBit_lt_two_pow (Nat.lt_of_lt_of_le h (by
   have:2 ^ 8≤2 ^ j:=Nat.pow_le_pow_right (by omega) (by omega)
   simpa using this))
  simp [this,show 8≤j by omega]
theorem crcStep_eq {c x:Nat}:crcStep c x=stn 8 (c ^^^ x):=by
 have e:c=c % 256 ^^^ (c / 256) * 2 ^ 8:=by
  rw [← add_xor (Nat.mod_lt _ (by omega))];omega
 unfold crcStep
 conv=>rhs;rw [e]
 rw [Nat.xor_assoc,Nat.xor_comm (c / 256 * 2 ^ 8) x,← Nat.xor_assoc,stn_xor 8 (c % 256 ^^^ x),stn_shift,Nat.xor_comm]
theorem crcRun_lt {l:List Nat} (h:Bytes l):∀ {c:Nat},c<4294967296→crcRun c l<4294967296:=by
 induction l with
 | nil=>intro c hc;exact hc
 | cons x l ih=>
  intro c hc
  refine ih h.tail ?_
  rw [crcStep_eq]
  exact stn_lt 8 (xor_lt32 hc (by have:=h.head;omega))
theorem crcOf_lt {l:List Nat} (h:Bytes l):crcOf l<4294967296:=xor_lt32 (by omega) (crcRun_lt h (by omega))
theorem crcRun_append (a b:List Nat):∀ c,crcRun c (a++b)=crcRun (crcRun c a) b:=by
 induction a with
 | nil=>intro c;rfl
 | cons x a ih=>intro c;simp only [List.cons_append,crcRun,ih]
theorem crcRun_snoc {l:List Nat} {k:Nat} (h:k<l.length) (c:Nat):crcRun c (l.take (k+1))=crcStep (crcRun c (l.take k)) (l.getD k 0):=by
 have e:l.take (k+1)=l.take k ++ [l.getD k 0]:=by
  rw [List.take_succ_eq_append_getElem h];simp [h]
 rw [e,crcRun_append];rfl
end Go.Proofs.YtnaebigoknfndaaGreatDoor
namespace Go.Proofs.YtnaebigoknfndaaGreatDoor
open Go.RowKit
def within (k n:Int):Int:=k % 18446744073709551616 % n
theorem within_bd (k:Int) {n:Int} (h:0<n):0≤within k n∧within k n<n:=by
 unfold within;exact ⟨Int.emod_nonneg _ (by omega),Int.emod_lt_of_pos _ h⟩
theorem within_walk (k:Int) {n:Int} (h:0<n) (h1:n≤9223372036854775807):Ending.returned (.int .i64 (wrap64 ((IntKind.u64.wrap k).tmod n)))=.returned (.int .i64 (within k n)):=by
 have b:=within_bd k h
 rw [IntKind.wrap_u64,Int.tmod_eq_emod_of_nonneg (by omega)]
 rw [show k % 18446744073709551616 % n=within k n from rfl,IntWalk.wrap64_in _ ⟨by omega,by omega⟩]
theorem within_any (k n x:Int) (w:World) (h:0<n) (h1:n≤9223372036854775807) (hx:within k n=x) :
  Calls Tryz.prog 9 #[.int .i64 k,.int .i64 n] w fun e w'=>
   e=.returned (.int .i64 x)∧w=w':=by
 subst hx
 go_enter Tryz.func9,Tryz.ntmps9
 go_wp2
 go_ret
 exact ⟨within_walk k h h1,rfl⟩
end Go.Proofs.YtnaebigoknfndaaGreatDoor
namespace Go.Proofs.YtnaebigoknfndaaGreatDoor
open Go Go.RowKit
section
variable {P:Program} {ops:Array Oper} {md:Region.Mode} {C:World→Prop}
def headAny (P:Program) (md:Region.Mode) (ops:Array Oper) (C:World→Prop) (n:Nat) (L:Array Bool→Act→Prop):Nat→Array Bool→Act→Prop
 | 0,listed,a=>L listed a
 | f+1,listed,a=>
  Region.ready md ops listed ≠ []∧∀ i∈Region.ready md ops listed,i<n∧qOp P ops C i (headAny P md ops C n L f (listed.setIfInBounds i true)) a
theorem wpAny_of_headAny {n g:Nat} {L:Array Bool→Act→Prop} {Q':Exit→Act→World→Prop} (hL:∀ listed a w,C w→L listed a→wpAny P md ops Q' g listed a w) :
  ∀ (f:Nat) (listed:Array Bool) (a:Act) (w:World),C w→headAny P md ops C n L f listed a→wpAny P md ops Q' (f+g) listed a w:=by
 intro f
 induction f with
 | zero=>intro listed a w hw h;rw [Nat.zero_add];exact hL _ _ _ hw h
 | succ f ih=>
  intro listed a w hw h
  have e:f+1+g=(f+g)+1:=by omega
  rw [e]
  refine ⟨fun h0=>absurd h0 h.1,fun i hi=>?_⟩
  exact wpOp_of_qOp hw (fun a' w' hw' h'=>ih _ a' w' hw' h') (h.2 i hi).2
theorem unlisted_not_bound {i:Nat} {oj:Oper} {listed:Array Bool} (hi:i∈Region.ready md ops listed) (hall:∀ e∈oj.after,Region.binds md e=true→listed.getD e.on false=true) :
  ∀ e∈oj.after,Region.binds md e=true→e.on≠i:=by
 intro e he hb heq
 have h1:=hall e he hb
 rw [heq,getD_both (mem_ready.1 hi).1] at h1
 cases h1
theorem headAny_first {n i:Nat} {oi:Oper} {v:Value} {L:Array Bool→Act→Prop} (hi:ops[i]? = some oi) (hsel:∀ (j:Nat) (o:Oper) cs b,ops[j]? = some o→o.op≠.select cs b)
  (hs:Region.sinkB md ops n=true) (hc:Region.chainB md ops n=true) (hn:n<ops.size) (hin:i<n)
  (hdone:∀ listed a,L listed a→∀ j∈Region.ready md ops listed,n≤j) :
  ∀ (f:Nat) (listed:Array Bool) (a:Act),HeadInv md ops n listed →
   (∀ j oj,ops[j]? = some oj→j≠i→listed.getD j true=false→(∀ e∈oj.after,Region.binds md e=true→e.on≠i)→oi.apart ops oj=true) →
   i∈Region.ready md ops listed→YieldsIn P ops C oi v a →
   headAny P md ops C n L f (listed.setIfInBounds i true) (a.put oi.dst v)→headAny P md ops C n L (f+1) listed a:=by
 intro f
 induction f with
 | zero=>
  intro listed a inv _ hr hy H
  have hheads:∀ j∈Region.ready md ops listed,j<n:=fun j hj=>by
   rcases Nat.lt_or_ge j n with h | h
   ·exact h
   ·exact absurd hj (tail_waits hs hc hn inv _ i rfl hin (mem_ready.1 hr).1 j h)
  refine ⟨fun h=>(by rw [h] at hr;cases hr),fun j hj=>⟨hheads j hj,?_⟩⟩
  by_cases hji:j=i
  ·subst hji;exact hy.qOp hi H
  ·have h1:=hdone _ _ H j (ready_mono hj hji)
   have h2:=hheads j hj
   omega
 | succ f ih=>
  intro listed a inv hfree hr hy H
  have hheads:∀ j∈Region.ready md ops listed,j<n:=fun j hj=>by
   rcases Nat.lt_or_ge j n with h | h
   ·exact h
   ·exact absurd hj (tail_waits hs hc hn inv _ i rfl hin (mem_ready.1 hr).1 j h)
  refine ⟨fun h=>(by rw [h] at hr;cases hr),fun j hj=>⟨hheads j hj,?_⟩⟩
  by_cases hji:j=i
  ·subst hji;exact hy.qOp hi H
  ·obtain ⟨hjun,oj,hoj,hall⟩:=mem_ready.1 hj
   have step:=qOp_put hoj (hfree j oj hoj hji hjun (unlisted_not_bound hr hall)) (fun cs b=>hsel i oi cs b hi) (fun cs b=>hsel j oj cs b hoj) hy (H.2 j (ready_mono hj hji)).2
   refine qOp_mono (fun a' h3=>ih (listed.setIfInBounds j true) a' (inv.set hj (hheads j hj)) ?_ (ready_mono hr (Ne.symm hji)) h3.1 ?_) step
   ·intro k ok hk hki hun hno
    refine hfree k ok hk hki ?_ hno
    by_cases hjk:j=k
    ·subst hjk;exact hjun
    ·rwa [getD_set_ne true hjk] at hun
   ·rw [Array.setIfInBounds_comm _ _ hji]
    exact h3.2
theorem headAny_lex {n g:Nat} {Lq:Act→Prop} (hsel:Region.noSelect ops=true) (hs:Region.sinkB md ops n=true) (hc:Region.chainB md ops n=true) (hn:n<ops.size) :
  ∀ (l:List Oper) (k:Nat) (listed:Array Bool) (a:Act),(∀ j,j<l.length→l[j]? = ops[k+j]?)→k+l.length=n→HeadInv md ops n listed →
  Region.lexHead md ops g l.length k listed=true→wpQuiet P ops C Lq l a →
  headAny P md ops C n (fun listed' a'=>Region.seqB md ops g n listed'=true∧Lq a') l.length listed a:=by
 intro l
 induction l with
 | nil=>
  intro k listed a _ hk _ hB h
  obtain rfl:k=n:=by simpa using hk
  exact ⟨by simpa [Region.lexHead] using hB,h⟩
 | cons o l ih=>
  intro k listed a hl hk inv hB h
  have h0:ops[k]? = some o:=by simpa using (hl 0 (by simp)).symm
  have hkn:k<n:=by simp only [List.length_cons] at hk;omega
  simp only [List.length_cons,Region.lexHead,Bool.and_eq_true] at hB
  have hr:k∈Region.ready md ops listed:=by simpa using hB.1.1
  have hq:qOp P ops C k (wpQuiet P ops C Lq l) a:=by unfold qOp;simp only [h0];exact h
  obtain ⟨v,hy,hK⟩:=yieldsIn_of_qOp h0 hq
  refine headAny_first h0 (Region.noSelect_spec hsel) hs hc hn hkn (fun listed' a' hL=>seqB_ready hL.1) l.length listed a inv (Region.free_spec h0 hB.1.2) hr hy ?_
  refine ih (k+1) _ _ (fun j hj=>?_) (by simp only [List.length_cons] at hk;omega) (inv.set hr hkn) hB.2 hK
  have:=hl (j+1) (by simp;omega)
  simpa [Nat.add_assoc,Nat.add_comm 1 j] using this
theorem wp_region_quiet_tail {id:Nat} {Q:Exit→Act→World→Prop} {a:Act} {w:World} {l:List Oper} (n:Nat) (C:World→Prop) (hm:P.follows .mixedOrders=true) (hB:Region.lexTailB .any l.toArray n=true)
  (hC:C { w with drawn:=w.drawn+1 }) (h:wpQuiet P l.toArray C (fun a'=>∀ w',C w'→wpList P l.toArray Q (l.drop n) a' w') (l.take n) a):(Code.region id l.toArray true).wp P Q a w:=by
 simp only [Region.lexTailB,Bool.and_eq_true,decide_eq_true_eq] at hB
 obtain ⟨⟨⟨⟨hsel,hn⟩,hs⟩,hc⟩,hlex⟩:=hB
 have hn':n<l.length:=by simpa using hn
 have htl:(l.take n).length=n:=by simp;omega
 have hdl:(l.drop n).length=l.toArray.size - n:=by simp
 have inv0:HeadInv .any l.toArray n (Array.replicate l.toArray.size false):=
  ⟨by simp,fun j oj _ hl=>(by rw [getD_replicate_false] at hl;cases hl),fun t _ ht=>getD_in (by simpa using ht) (getD_replicate_false _ _)⟩
 have H:=headAny_lex (md:=.any) (g:=l.toArray.size - n) hsel hs hc hn (l.take n) 0 _ a (fun j hj=>by
  have hj':j<n:=by rw [htl] at hj;exact hj
  simp [hj']) (by simpa using htl) inv0 (by rw [htl];exact hlex) h
 refine wp_region_any hm ?_
 have fin:=wpAny_of_headAny (Q':=Q) (g:=l.toArray.size - n) (fun listed a' w' hw' hL=>by
  have:=wpAny_of_seq (md:=.any) (Q':=Q) (l.drop n) n listed a' w' (fun j=>by simp [List.getElem?_drop]) (by rw [hdl];exact hL.1) (hL.2 w' hw')
  rwa [hdl] at this) _ _ _ _ hC H
 rwa [htl,show n+(l.toArray.size - n)=l.toArray.size by omega] at fin
theorem wp_region_quiet_all {id:Nat} {Q:Exit→Act→World→Prop} {a:Act} {w:World} {l:List Oper} (C:World→Prop) (hm:P.follows .mixedOrders=true) (hB:Region.lexB .any l.toArray=true)
  (hC:C { w with drawn:=w.drawn+1 }) (h:wpQuiet P l.toArray C (fun a'=>∀ w',C w'→Q .normal a' w') l a):(Code.region id l.toArray true).wp P Q a w:=
 wp_region_quiet (C:=C) hm hB hC (by simpa using h)
end
def Ext (W w:World):Prop:=Below W.heap.size W w
theorem Ext.below {W w:World} (h:Ext W w):Below W.heap.size W w:=h
theorem Ext.drawn (w:World):Ext w { w with drawn:=w.drawn+1 }:=(Below.refl w.heap.size w).drew
theorem Ext.calls {P:Program} {f:FuncId} {args:Array Value} {W w:World} {v:Value} (h:Ext W w)
  (c:Calls P f args w fun e w'=>e=.returned v∧Below w.heap.size w w'):Calls P f args w fun e w''=>e=.returned v∧Ext W w'':=
 c.mono fun _ _ ⟨he,hb⟩=>⟨he,h.below.trans (hb.mono h.below.size)⟩
def hcell (w:World) (b o:Nat):Option Value:=w.cell? ⟨b,o,none⟩
def hfroz (w:World) (b o:Nat):Bool:=w.frozen? ⟨b,o,none⟩
theorem alloc_cells (w:World) (c:Array Value) (t:TypeId) (b o:Nat):(w.alloc (.cells c t)).cell? ⟨b,o,none⟩=if b<w.heap.size then w.cell? ⟨b,o,none⟩ else if b=w.heap.size then c[o]? else hcell (w.alloc (.cells c t)) b o:=by
 split
 ·rename_i h;exact World.cell?_alloc_lt w _ ⟨b,o,none⟩ h
 ·split
  ·rename_i h;subst h;exact World.cell?_alloc_new w c t o
  ·rfl
theorem alloc_frozens (w:World) (c:Array Value) (t:TypeId) (b o:Nat):(w.alloc (.cells c t)).frozen? ⟨b,o,none⟩=if b<w.heap.size then w.frozen? ⟨b,o,none⟩ else if b=w.heap.size then false else hfroz (w.alloc (.cells c t)) b o:=by
 split
 ·rename_i h;exact World.frozen?_of_block (w:=w) (Below.heap_alloc w _ b h)
 ·split
  ·rename_i h;exact World.frozen?_alloc_at c t b o h
  ·rfl
theorem Below.cells {B:Nat} {W w:World} (h:Below B W w) (b o:Nat):w.cell? ⟨b,o,none⟩=if b<B then W.cell? ⟨b,o,none⟩ else hcell w b o:=by
 split
 ·rename_i hb;exact h.cell (p:=⟨b,o,none⟩) hb
 ·rfl
theorem Below.frozens {B:Nat} {W w:World} (h:Below B W w) (b o:Nat):w.frozen? ⟨b,o,none⟩=if b<B then W.frozen? ⟨b,o,none⟩ else hfroz w b o:=by
 split
 ·rename_i hb;exact h.frozen (p:=⟨b,o,none⟩) hb
 ·rfl
end Go.Proofs.YtnaebigoknfndaaGreatDoor
namespace Go.Proofs.YtnaebigoknfndaaGreatDoor
open Go.RowKit
def tabC (k:Nat):Array Value:=(Array.range 256).map fun i=>Value.int .u32 (if i<k then (stn 8 i:Int) else 0)
theorem tabC_size (k:Nat):(tabC k).size=256:=by simp [tabC]
theorem tabC_zero:Array.replicate 256 (Value.int .u32 0)=tabC 0:=by
 apply Array.ext
 ·simp [tabC]
 ·intro i h1 h2;simp [tabC]
theorem tabC_succ {k:Nat} (h:k<256):(tabC k).setIfInBounds k (.int .u32 (stn 8 k:Int))=tabC (k+1):=by
 apply Array.ext
 ·simp [tabC]
 ·intro i h1 h2
  have hi:i<(tabC k).size:=by simpa using h1
  rw [Array.getElem_setIfInBounds hi]
  simp only [tabC,Array.getElem_map,Array.getElem_range]
  by_cases c:k=i
  ·subst c;simp
  ·rw [if_neg c]
   by_cases d:i<k
   ·rw [if_pos d,if_pos (by omega)]
   ·rw [if_neg d,if_neg (by omega)]
theorem tabC_get {k:Nat} (h:k<256):(tabC 256)[k]? = some (.int .u32 (stn 8 k:Int)):=by
 simp [tabC,h]
theorem tabC_one (k:Nat):(tabC k).all (·.oneCell')=true:=by
 rw [Array.all_eq_true_iff_forall_mem]
 intro x hx
 obtain ⟨i,_,rfl⟩:=Array.mem_map.1 hx
 rfl
theorem info88:(Tryz.prog.info? 249).map (fun i=>(i.zero,i.size))=some (some (.agg (Array.replicate 256 (.int .u32 0))),256):=by kernel_rfl
theorem stp_even {c:Nat} (h:¬ c % 2=1):stp c=c / 2:=by unfold stp;rw [if_neg h]
theorem stp_odd {c:Nat} (h:c % 2=1):stp c=c / 2 ^^^ 3988292384:=by unfold stp;rw [if_pos h]
theorem setRow_below {B:Nat} {w w1:World} (h:Below B w w1) {g:Nat} (hg:B≤g) (cs:Array Value):Below B w (w1.setRow g cs):=
 h.trans ⟨rfl,rfl,rfl,by simp [World.setRow],fun k hk=>by
  simp only [World.setRow,Array.getElem?_modify]
  rw [if_neg (by omega)]⟩
theorem setRow_at {w:World} {g:Nat} {old cs:Array Value} {T:TypeId} {fz:Nat×Nat} (h:w.heap[g]? = some (.cells old T fz)):(w.setRow g cs).heap[g]? = some (.cells cs T fz):=by
 simp [World.setRow,Array.getElem?_modify,h]
theorem bit_one (c:Nat) (h:c<4294967296):bits .and .u32 (c:Int) 1=((c % 2:Nat):Int):=by
 have:=u32_and_nat c 1 h (by omega)
 rw [show ((1:Nat):Int)=1 from rfl] at this
 rw [this,Nat.and_one_is_mod]
theorem results_cell_one {fn:Func} {p:Tmp} {ty:TypeId} (h:fn.results = #[.cell p ty]) {tmps:Array Value} {P:Program} {w:World} {a:Addr} {v:Value} (hp:tmps.getD p undef=.pointer (some a))
  (hl:(loadVar ty a).run P w=.ok v w):(results fn tmps).run P w=.ok v w:=by
 simp only [results,h]
 rw [Array.getD_eq_getD_getElem?] at hp
 simp [Sem.run_bind,Result.andThen,hp,asAddr,hl]
theorem table_ok (w:World) :
  Calls Tryz.prog 206 #[] w fun e w'=>e=.returned (.agg (tabC 256))∧Below w.heap.size w w':=by
 have hz:=zero_of_info info88
 obtain ⟨hv88,hi88⟩:=hz
 have t88:=Tryz.underlying249
 go_enter Tryz.func206,Tryz.ntmps206
 go_wp2
 rw [tabC_zero]
 obtain ⟨w1,hw1⟩:∃ w1,w1=w.alloc (.cells (tabC 0) 249):=⟨_,rfl⟩
 have bel1:Below w.heap.size w w1:=by rw [hw1];exact (Below.refl _ _).alloc (Nat.le_refl _) _
 have sz1:w1.heap.size=w.heap.size+1:=by rw [hw1];simp
 have blk1:w1.heap[w.heap.size]? = some (.cells (tabC 0) 249):=by rw [hw1];exact heap_alloc_last _ _
 rw [← hw1]
 have HB:=Lib.hid bel1
 have HK:=Lib.hid blk1
 clear hw1 bel1 blk1 hv88
 go_loopw [4] (fun i wr=>∃ k:Nat,k≤256∧i=.int .i64 k∧wr=w1.alloc (.cells (tabC k) 249)) (fun i _=>256 - (intOf i).toNat)
 case atStart=>exact ⟨0,Nat.zero_le _,rfl,rfl⟩
 case round=>
  obtain ⟨k,hk,rfl,rfl⟩:=hrel
  by_cases hlt:k<256
  ·have kc:IntKind.u32.wrap (k:Int)=k:=by rw [IntKind.wrap_u32'];omega
   go_wp2
   go_loop [3,9] (fun c i=>∃ (j x:Nat),j≤8∧i=.int .i64 j∧c=.int .u32 x∧stn j k=x) (fun _ i=>8 - (intOf i).toNat)
   case atStart=>exact ⟨0,k,Nat.zero_le _,rfl,rfl,rfl⟩
   case round=>
    obtain ⟨j,x,hj,rfl,rfl,hx⟩:=hrel
    have xb:x<4294967296:=by rw [← hx];exact stn_lt j (by omega)
    by_cases hjl:j<8
    ·have hs:stn (j+1) k=stp x:=by rw [stn_add,hx];rfl
     have HS:=Lib.hid hs
     have hbit:=bit_one x xb
     by_cases hodd:x % 2=1
     ·rw [hodd] at hbit
      have hx2:bits .xor .u32 ((x:Int) / 2) 3988292384=((stp x:Nat):Int):=by
       rw [stp_odd hodd]
       have:=u32_xor_nat (x / 2) 3988292384 (by omega) (by omega)
       rw [show ((3988292384:Nat):Int)=3988292384 from rfl] at this
       rw [← this];rfl
      obtain ⟨y,hy⟩:∃ y,stp x=y:=⟨_,rfl⟩
      rw [hy] at HS hx2
      clear hs hx hy
      go_wp2
      go_round
      case rel=>exact ⟨j+1,y,by omega,by go_num,rfl,HS.out⟩
      case measure=>simp [intOf];omega
     ·have h0:x % 2=0:=by omega
      rw [h0] at hbit
      have hx2:(x:Int) / 2=((stp x:Nat):Int):=by rw [stp_even hodd];rfl
      obtain ⟨y,hy⟩:∃ y,stp x=y:=⟨_,rfl⟩
      rw [hy] at HS hx2
      clear hs hx hy
      go_wp2
      go_round
      case rel=>exact ⟨j+1,y,by omega,by go_num,rfl,HS.out⟩
      case measure=>simp [intOf];omega
    ·obtain rfl:j=8:=by omega
     have hset:=tabC_succ hlt
     rw [hx] at hset
     have HSet:=Lib.hid hset
     have hget:(tabC k)[k]? = some (.int .u32 0):=by simp [tabC,hlt]
     clear hset hx
     go_wp2
     go_roundw
     case rel=>exact ⟨k+1,by omega,by go_num,by rw [← HSet.out]⟩
     case measure=>simp [intOf];omega
  ·obtain rfl:k=256:=by omega
   have hsz:=tabC_size 256
   have hld:=heap_alloc_last w1 (.cells (tabC 256) 249)
   rw [sz1] at hld
   have hi256:Option.map (fun x=>x.size) (Tryz.prog.info? 249)=some (tabC 256).size:=by rw [hsz];exact hi88
   have hold:(w1.alloc (.cells (tabC 256) 249)).heap[w.heap.size]? = some (.cells (tabC 0) 249):=by
    rw [Below.heap_alloc _ _ _ (by omega)];exact HK.out
   have HL:=Lib.hid hld
   have HI:=Lib.hid hi256
   have HO:=Lib.hid hold
   clear hld hi256 hold hi88
   have hsc:(storeCells ⟨w.heap.size,0,none⟩ (tabC 256).toList 0).run Tryz.prog (w1.alloc (.cells (tabC 256) 249))=.ok () ((w1.alloc (.cells (tabC 256) 249)).setRow w.heap.size (tabC 256)):=by
    have:=run_storeVar_row (P:=Tryz.prog) _ _ _ 249 _ (tabC 256) HO.out HI.out (by rw [tabC_size,tabC_size]) (tabC_one _)
    cases hq:Tryz.prog.info? 249 with
    | none=>have:=HI.out;simp [hq] at this
    | some i=>
     have hs:i.size=256:=by have:=HI.out;rw [hq,hsz] at this;simpa using this
     simpa [storeVar,sizeOf,typeInfo,hq,Value.cells,hs,hsz] using this
   have HS:=Lib.hid hsc
   clear hsc
   go_wp2
   refine wp_load_row _ _ rfl _ rfl _ _ _ _ HL.out t88 rfl HI.out ?_
   go_wp2
   rw [HS.out]
   simp only [Result.andThen]
   rw [Oper.upon_skip]
   go_wp2
   (try simp only [Exit.inBlock,Exit.then])
   have hres:=run_loadVar_row (P:=Tryz.prog) _ _ _ 249 (tabC 256) (0,0) _ (setRow_at (cs:=tabC 256) HO.out) t88 rfl HI.out
   exact bodyPost_ret (v:=.agg (tabC 256)) (results_cell_one rfl rfl hres) rfl ⟨rfl,setRow_below (HB.out.alloc (by omega) _) (Nat.le_refl _) _⟩
theorem ctabC_at {b:Nat} {w:World} {T:TypeId} {fz:Nat×Nat} (h:w.heap[b]? = some (.cells (tabC 256) T fz)) {i:Nat} (hi:i<256):w.cell? ⟨b,i,none⟩=some (.int .u32 (stn 8 i:Int)):=by
 rw [cell_of_row _ _ _ _ _ _ h,tabC_get hi]
end Go.Proofs.YtnaebigoknfndaaGreatDoor
namespace Go.Proofs.YtnaebigoknfndaaGreatDoor
open Go.RowKit
def byts (s:ByteArray):List Nat:=s.data.toList.map UInt8.toNat
theorem byts_len (s:ByteArray):(byts s).length=s.size:=by unfold byts;rw [List.length_map,Array.length_toList];rfl
theorem byts_get (s:ByteArray) {k:Nat} (h:k<s.size):(byts s).getD k 0=(s[k]'h).toNat:=by
 have h2:k<s.data.toList.length:=by rw [Array.length_toList];exact h
 unfold byts
 rw [List.getD_eq_getElem?_getD,List.getElem?_map,List.getElem?_eq_getElem h2]
 rfl
theorem crc_ok (s:ByteArray) (n:Nat) (w:World) (hs:s.size≤20000) (hn:crcOf (byts s)=n) :
  Calls Tryz.prog 176 #[.string s] w fun e w'=>e=.returned (.tuple #[.int .i64 n,.int .i64 0])∧Below w.heap.size w w':=by
 obtain ⟨hv88,hi88⟩:=zero_of_info info88
 have t88:=Tryz.underlying249
 have HN:=Lib.hid hn
 clear hn
 have hd:decide (20000<(s.size:Int))=false:=by simp;omega
 have hsz:=tabC_size 256
 have hi256:Option.map (fun x=>x.size) (Tryz.prog.info? 249)=some (tabC 256).size:=by rw [hsz];exact hi88
 have HI:=Lib.hid hi256
 clear hi256 hi88
 go_enter Tryz.func176,Tryz.ntmps176
 go_wp2_with fail
 refine (table_ok _).mono ?_
 rintro e w1 ⟨rfl,hb1⟩
 have hsc:=run_storeCells_new (P:=Tryz.prog) w1 249 (Array.replicate 256 (.int .u32 0)) (tabC 256) HI.out (by rw [hsz];simp) (tabC_one _)
 have HSC:=Lib.hid hsc
 clear hsc
 go_wp2_with fail
 rw [HSC.out]
 simp only [Result.andThen]
 rw [Oper.upon_skip]
 obtain ⟨w2,hw2⟩:∃ w2,w2=w1.alloc (.cells (tabC 256) 249):=⟨_,rfl⟩
 have bel2:Below w.heap.size w w2:=by rw [hw2];exact hb1.alloc hb1.size _
 have hcell:∀ d,d<256→w2.cell? ⟨w1.heap.size,d,none⟩=some (.int .u32 (stn 8 d:Int)):=fun d hd=>by
  rw [hw2];exact ctabC_at (heap_alloc_last _ _) hd
 rw [← hw2]
 have HC:=Lib.hid hcell
 have HB:=Lib.hid bel2
 clear hw2 bel2 hcell hb1 HSC hv88 t88
 go_wp2_with fail
 go_loop [5,13] (fun c i=>∃ (k C:Nat),k≤s.size∧i=.int .i64 k∧c=.int .u32 C∧C<4294967296∧crcRun 4294967295 ((byts s).take k)=C) (fun _ i=>s.size - (intOf i).toNat)
 case atStart=>exact ⟨0,4294967295,Nat.zero_le _,rfl,rfl,by omega,rfl⟩
 case round=>
  obtain ⟨k,C,hk,rfl,rfl,hC,hrun⟩:=hrel
  by_cases hlt:k<s.size
  ·have hst:=crcRun_snoc (l:=byts s) (k:=k) (by rw [byts_len];exact hlt) 4294967295
   rw [hrun,byts_get s hlt] at hst
   obtain ⟨x,hx⟩:∃ x:UInt8,s[k]'hlt=x:=⟨_,rfl⟩
   rw [hx] at hst
   have xb:=UInt8.toNat_lt x
   obtain ⟨X,hX⟩:∃ X,x.toNat=X:=⟨_,rfl⟩
   rw [hX] at hst xb
   obtain ⟨d,hd8⟩:∃ d,C % 256 ^^^ X=d:=⟨_,rfl⟩
   have db:d<256:=by rw [← hd8];exact Nat.xor_lt_two_pow (n:=8) (by omega) (by omega)
   have f1:IntKind.u8.wrap (C:Int)=((C % 256:Nat):Int):=by simp [IntKind.wrap,IntKind.bits,IntKind.signed]
   have f2:bits .xor .u8 ((C % 256:Nat):Int) (X:Int)=(d:Int):=by rw [u8_xor_nat _ _ (by omega) xb,hd8]
   have f2':bits .xor .u8 ((C:Int) % 256) (X:Int)=(d:Int):=f2
   have f3:=HC.out d db
   have eb:stn 8 d<4294967296:=stn_lt 8 (by omega)
   obtain ⟨e,he⟩:∃ e,stn 8 d=e:=⟨_,rfl⟩
   rw [he] at f3 eb
   obtain ⟨C',hC'⟩:∃ C',C / 256 ^^^ e=C':=⟨_,rfl⟩
   have f4:bits .xor .u32 ((C:Int) / 256) (e:Int)=(C':Int):=by
    rw [← hC'];exact u32_xor_nat (C / 256) e (by omega) eb
   have cb:C'<4294967296:=by rw [← hC'];exact xor_lt32 (by omega) eb
   have hst2:crcRun 4294967295 ((byts s).take (k+1))=C':=by rw [hst];unfold crcStep;rw [hd8,he,hC']
   have HS:=Lib.hid hst2
   clear hst hst2 hC' he hd8 hrun
   go_wp2_with fail
   go_round
   case rel=>exact ⟨k+1,C',by omega,by go_num,rfl,cb,HS.out⟩
   case measure=>simp [intOf];omega
  ·obtain rfl:s.size=k:=by omega
   rw [List.take_of_length_le (by rw [byts_len];exact Nat.le_refl _)] at hrun
   have hn:=HN.out
   unfold crcOf at hn
   rw [hrun] at hn
   have f5:bits .xor .u32 IntKind.u32.max (C:Int)=(n:Int):=by
    rw [← hn];exact u32_xor_nat 4294967295 C (by omega) hC
   have nb:n<4294967296:=by rw [← hn];exact xor_lt32 (by omega) hC
   have f6:wrap64 (n:Int)=n:=IntWalk.wrap64_in _ ⟨by omega,by omega⟩
   clear hrun hn
   go_wp2_with fail
   go_ret2
   exact ⟨rfl,HB.out⟩
end Go.Proofs.YtnaebigoknfndaaGreatDoor
namespace Go.Proofs.YtnaebigoknfndaaGreatDoor
def sumI:List Int→Int
 | []=>0
 | x :: l=>x+sumI l
def sqI:List Int→Int
 | []=>0
 | x :: l=>x * x+sqI l
theorem sumI_append (a b:List Int):sumI (a++b)=sumI a+sumI b:=by
 induction a with
 | nil=>simp [sumI]
 | cons x a ih=>simp only [List.cons_append,sumI,ih];omega
theorem sqI_append (a b:List Int):sqI (a++b)=sqI a+sqI b:=by
 induction a with
 | nil=>simp [sqI]
 | cons x a ih=>simp only [List.cons_append,sqI,ih];omega
theorem take_snoc (l:List Int) {k:Nat} (h:k<l.length):l.take (k+1)=l.take k ++ [l.getD k 0]:=by
 rw [List.take_succ_eq_append_getElem h];simp [h]
theorem sumI_snoc (l:List Int) {k:Nat} (h:k<l.length):sumI (l.take (k+1))=sumI (l.take k)+l.getD k 0:=by
 rw [take_snoc l h,sumI_append];simp [sumI]
theorem sqI_snoc (l:List Int) {k:Nat} (h:k<l.length):sqI (l.take (k+1))=sqI (l.take k)+l.getD k 0 * l.getD k 0:=by
 rw [take_snoc l h,sqI_append];simp [sqI]
def Btw (a b:Int) (l:List Int):Prop:=∀ x∈l,a≤x∧x≤b
instance (a b:Int) (l:List Int):Decidable (Btw a b l):=by unfold Btw;infer_instance
theorem Btw.take {a b:Int} {l:List Int} (h:Btw a b l) (k:Nat):Btw a b (l.take k):=fun x hx=>h x (List.mem_of_mem_take hx)
theorem Btw.drop {a b:Int} {l:List Int} (h:Btw a b l) (k:Nat):Btw a b (l.drop k):=fun x hx=>h x (List.mem_of_mem_drop hx)
theorem Btw.get {a b:Int} {l:List Int} (h:Btw a b l) {k:Nat} (hk:k<l.length):a≤l.getD k 0∧l.getD k 0≤b:=by
 have:l.getD k 0=l[k]:=by simp [hk]
 rw [this];exact h _ (List.getElem_mem hk)
theorem Btw.tail {a b x:Int} {l:List Int} (h:Btw a b (x :: l)):Btw a b l:=fun y hy=>h y (List.mem_cons_of_mem _ hy)
theorem Btw.head {a b x:Int} {l:List Int} (h:Btw a b (x :: l)):a≤x∧x≤b:=h x List.mem_cons_self
theorem Btw.append {a b:Int} {l m:List Int} (h:Btw a b l) (h':Btw a b m):Btw a b (l++m):=fun x hx=>by
 rcases List.mem_append.1 hx with hx | hx
 ·exact h x hx
 ·exact h' x hx
theorem Btw.one {a b x:Int} (h:a≤x) (h':x≤b):Btw a b [x]:=fun y hy=>by
 have:y=x:=by simpa using hy
 subst this;exact ⟨h,h'⟩
theorem Btw.nil (a b:Int):Btw a b []:=fun _ h=>by cases h
theorem sq_nonneg (a:Int):0≤a * a:=by
 rcases Int.le_total 0 a with h | h
 ·exact Int.mul_nonneg h h
 ·exact Int.mul_nonneg_of_nonpos_of_nonpos h h
theorem le_sq (a:Int):a≤a * a:=by
 rcases Int.lt_or_le a 1 with h | h
 ·have:=sq_nonneg a;omega
 ·have:0≤(a - 1) * a:=Int.mul_nonneg (by omega) (by omega)
  rw [Int.sub_mul] at this;omega
theorem sumI_bd {l:List Int} {M:Int} (h:Btw 0 M l):0≤sumI l∧sumI l≤l.length * M:=by
 induction l with
 | nil=>simp [sumI]
 | cons x l ih=>
  have h1:=h.head
  have h2:=ih h.tail
  simp only [sumI,List.length_cons,Int.natCast_add,Int.add_mul]
  omega
theorem sqI_bd {l:List Int} {M:Int} (h:Btw 0 M l):sumI l≤sqI l∧sqI l≤sumI l * M:=by
 induction l with
 | nil=>simp [sumI,sqI]
 | cons x l ih=>
  have h1:=h.head
  have h2:=ih h.tail
  have h3:=le_sq x
  have h4:x * x≤x * M:=Int.mul_le_mul_of_nonneg_left h1.2 h1.1
  simp only [sumI,sqI,Int.add_mul]
  omega
def dsq (c:Int):List Int→Int
 | []=>0
 | x :: l=>(x - c) * (x - c)+dsq c l
theorem dsq_nonneg (c:Int) (l:List Int):0≤dsq c l:=by
 induction l with
 | nil=>simp [dsq]
 | cons x l ih=>have:=sq_nonneg (x - c);simp only [dsq];omega
theorem dsq_eq (c:Int) (l:List Int):dsq c l=sqI l - 2 * (c * sumI l)+l.length * (c * c):=by
 induction l with
 | nil=>simp [dsq,sqI,sumI]
 | cons x l ih=>
  simp only [dsq,sqI,sumI,List.length_cons,Int.natCast_add,ih]
  grind
def spr (l:List Int):Int:=l.length * sqI l - sumI l * sumI l
theorem spr_cons (x:Int) (l:List Int):spr (x :: l)=spr l+dsq x l:=by
 rw [dsq_eq]
 simp only [spr,sqI,sumI,List.length_cons,Int.natCast_add]
 grind
theorem spr_nonneg (l:List Int):0≤spr l:=by
 induction l with
 | nil=>simp [spr,sqI,sumI]
 | cons x l ih=>rw [spr_cons];have:=dsq_nonneg x l;omega
end Go.Proofs.YtnaebigoknfndaaGreatDoor
namespace Go.Proofs.YtnaebigoknfndaaGreatDoor
open Go Go.RowKit
def Row (w:World) (A:Option Addr) (n:Nat) (l:List Int):Prop:=
 l.length=n∧(0<n→∃ b off,A=some ⟨b,off,none⟩∧b<w.heap.size∧∀ k,k<n→w.cell? ⟨b,off+k,none⟩=some (.int .i64 (l.getD k 0)))
section
variable {w w':World} {A:Option Addr} {n:Nat} {l:List Int}
theorem Row.len (h:Row w A n l):l.length=n:=h.1
theorem Row.below (h:Row w A n l) (hb:Below w.heap.size w w'):Row w' A n l:=
 ⟨h.1,fun hn=>by
  obtain ⟨b,off,e,lt,hc⟩:=h.2 hn
  exact ⟨b,off,e,Nat.lt_of_lt_of_le lt hb.size,fun k hk=>(hb.cell (p:=⟨b,off+k,none⟩) lt).trans (hc k hk)⟩⟩
theorem Row.at (h:Row w A n l) (hn:0<n):∃ b off,A=some ⟨b,off,none⟩∧b<w.heap.size∧∀ k,k<n→w.cell? ⟨b,off+k,none⟩=some (.int .i64 (l.getD k 0)):=h.2 hn
theorem Row.each (h:Row w A n l):∀ k,k<n→∃ b off,A=some ⟨b,off,none⟩∧b<w.heap.size∧w.cell? ⟨b,off+k,none⟩=some (.int .i64 (l.getD k 0)):=fun k hk=>by
 obtain ⟨b,off,e,lt,hc⟩:=h.2 (by omega)
 exact ⟨b,off,e,lt,hc k hk⟩
theorem name_num {p:Addr} {y:Int} (h:w.cell? p=some (.int .i64 y)):∃ x,x=y∧w.cell? p=some (.int .i64 x):=⟨y,rfl,h⟩
theorem Row.lit (w:World) (T:TypeId) (l:List Int) (n:Nat) (hn:l.length=n):Row (w.alloc (.cells (l.map (Value.int .i64)).toArray T)) (some ⟨w.heap.size,0,none⟩) n l:=by
 refine ⟨hn,fun _=>⟨w.heap.size,0,rfl,by simp,fun k hk=>?_⟩⟩
 rw [World.cell?_alloc_new]
 simp [List.getD,show k<l.length by omega]
theorem Row.of_own {base e c:Nat} (h:w.ownsRow base e 1 (.slice A n c) n (l.map (Value.int .i64))):Row w A n l:=by
 have h1:=h.1
 simp at h1
 refine ⟨h1,fun hn=>?_⟩
 obtain ⟨g,cap,hv,_,hlt⟩:=h.form hn
 have hA:A=some ⟨g,0,none⟩:=by injection hv
 subst hA
 refine ⟨g,0,rfl,hlt,fun k hk=>?_⟩
 have:=h.cells (g:=g) rfl k (.int .i64 (l.getD k 0)) (by
  rw [List.getElem?_map,show l[k]? = some (l.getD k 0) by simp [List.getD,show k<l.length by omega]];rfl)
 rw [← Go.WideShapes.add_plain]
 exact this
end
theorem own_form {w:World} {base e size n:Nat} {v:Value} {xs:List Value} (h:w.ownsRow base e size v n xs):∃ A c,v=.slice A n c∧n≤c∧c≤maxLen∧(A=none→n=0∧c=0):=by
 rcases h.2 with ⟨e,h1⟩ | ⟨g,cap,cur,e,_,_,h1,h2,_⟩
 ·exact ⟨none,0,by rw [e,h1],by omega,Nat.zero_le _,fun _=>⟨h1,rfl⟩⟩
 ·exact ⟨_,_,e,h1,h2,fun h=>(by cases h)⟩
theorem own_below {w w':World} {base e size n:Nat} {v:Value} {xs:List Value} (h:w.ownsRow base e size v n xs) (hb:Below w.heap.size w w'):w'.ownsRow base e size v n xs:=by
 refine ⟨h.1,?_⟩
 rcases h.2 with h1 | ⟨g,cap,cur,e,h1,h2,h3⟩
 ·exact .inl h1
 ·exact .inr ⟨g,cap,cur,e,h1,(hb.block g (Array.getElem?_eq_some_iff.1 h2).1).trans h2,h3⟩
def InRow (w:World) (a:Option Addr) (len cap:Nat) (l:List Int):Prop:=Row w a len l∧len≤cap∧cap≤maxLen∧(a=none→len=0∧cap=0)
theorem InRow.below {w w':World} {a:Option Addr} {len cap:Nat} {l:List Int} (h:InRow w a len cap l) (hb:Below w.heap.size w w'):InRow w' a len cap l:=⟨h.1.below hb,h.2⟩
theorem app1_cells (w:World) (x:Value) (T:TypeId):∀ j u,[x][j]? = some u→(w.alloc (.cells #[x] T)).cell? ((⟨w.heap.size,0,none⟩:Addr).add j)=some u:=by
 intro j u hj
 match j,hj with
 | 0,hj=>simp at hj;subst hj;rw [Go.WideShapes.add_plain,World.cell?_alloc_new];simp
theorem app1_one (k:IntKind) (y:Int):∀ u ∈ [Value.int k y],u.oneCell'=true:=by intro u hu;simp at hu;subst hu;rfl
theorem ints_one (l:List Int):∀ u∈l.map (Value.int .i64),u.oneCell'=true:=by
 intro u hu
 obtain ⟨x,_,rfl⟩:=List.mem_map.1 hu
 rfl
theorem Row.cellsAt {w:World} {ad:Addr} {n:Nat} {l:List Int} (h:Row w (some ad) n l) (o:Obj):∀ j u,(l.map (Value.int .i64))[j]? = some u→(w.alloc o).cell? (ad.add j)=some u:=by
 intro j u hu
 rw [List.getElem?_map] at hu
 rcases hx:l[j]? with _ | x
 ·rw [hx] at hu;cases hu
 ·rw [hx] at hu
  have hj:j<l.length:=(List.getElem?_eq_some_iff.1 hx).1
  obtain ⟨b,off,e,lt,hc⟩:=h.at (by have:=h.1;omega)
  injection e with e
  subst e
  rw [Go.WideShapes.add_plain,World.cell?_alloc_lt w o ⟨b,off+j,none⟩ lt,hc j (by have:=h.1;omega)]
  have:l.getD j 0=x:=by simp [List.getD,hx]
  rw [this]
  exact hu
theorem info_int:(Tryz.prog.info? 3).map (fun i=>(i.zero,i.size,i.bytes))=some (some (.int .i64 0),1,8):=by kernel_rfl
end Go.Proofs.YtnaebigoknfndaaGreatDoor
namespace Go.Proofs.YtnaebigoknfndaaGreatDoor
open Go.RowKit
theorem ofInt_i64 (a:Nat) (ha:a<4294967296):(BitVec.ofInt 64 (a:Int)).toNat=a:=by
 rw [BitVec.ofInt_natCast,BitVec.toNat_ofNat];exact Nat.mod_eq_of_lt (by omega)
theorem i64_or_nat (a b:Nat) (ha:a<4294967296) (hb:b<4294967296):bits .or .i64 (a:Int) (b:Int)=((a ||| b:Nat):Int):=by
 have hx:a ||| b<2 ^ 32:=Nat.or_lt_two_pow (by omega) (by omega)
 show IntKind.i64.wrap ((BitVec.ofInt 64 (a:Int) ||| BitVec.ofInt 64 (b:Int)).toNat:Int)=_
 rw [BitVec.toNat_or,ofInt_i64 a ha,ofInt_i64 b hb]
 exact IntWalk.i64_in _ (by omega)
def mkB (l:List Nat):ByteArray:=⟨(l.map UInt8.ofNat).toArray⟩
theorem byts_mkB {l:List Nat} (h:Bytes l):byts (mkB l)=l:=by
 unfold byts mkB
 simp only [List.map_map]
 rw [List.map_congr_left (g:=id)]
 ·simp
 ·intro x hx
  have:=h x hx
  simp;omega
theorem mkB_size (l:List Nat):(mkB l).size=l.length:=by
 unfold mkB;simp [ByteArray.size]
theorem mkB_byts (s:ByteArray):mkB (byts s)=s:=by
 unfold mkB byts
 simp only [List.map_map]
 rw [List.map_congr_left (g:=id)]
 ·simp
 ·intro x hx;simp
theorem info_u8:(Tryz.prog.info? 5).map (fun i=>(i.zero,i.size,i.bytes))=some (some (.int .u8 0),1,1):=by kernel_rfl
abbrev bv (b:Nat):Value:=.int .u8 (b:Int)
theorem run_own_text (w:World) {base n c:Nat} {A:Option Addr} {l:List Nat} (hb:Bytes l) (h:w.ownsRow base 5 1 (.slice A n c) n (l.map bv)) :
  (convert 39 9 (.slice A n c)).run Tryz.prog w=.ok (.string (mkB l)) w:=by
 have hl:l.length=n:=by have:=h.1;simpa using this
 rcases Nat.eq_zero_or_pos n with h0 | h0
 ·subst h0
  obtain rfl:l = []:=List.eq_nil_of_length_eq_zero hl
  rcases h.2 with ⟨e,_⟩ | ⟨g,cap,cur,e,_⟩
  ·injection e with e1 e2 e3
   subst e1 e3
   rw [run_convert_bytes_string w 39 9 5 none 0 0 Tryz.underlying39 Tryz.underlying5 Tryz.underlying9]
   rfl
  ·injection e with e1 e2 e3
   subst e1 e3
   exact run_convert_bytes_back w 39 9 5 ⟨g,0,none⟩ c [] Tryz.underlying39 Tryz.underlying5 Tryz.underlying9 (fun j hj=>absurd hj (by simp))
 ·obtain ⟨g,cap,e,_⟩:=h.form h0
  injection e with e1 e2 e3
  subst e1
  have hc:=h.cells (g:=g) rfl
  have:=run_convert_bytes_back w 39 9 5 ⟨g,0,none⟩ c (l.map UInt8.ofNat) Tryz.underlying39 Tryz.underlying5 Tryz.underlying9 (fun j hj=>by
   rw [List.length_map] at hj
   refine hc j _ ?_
   rw [List.getElem?_map,List.getElem?_eq_getElem hj]
   simp only [List.getElem_map,Option.map_some,bv]
   have:=hb l[j] (List.getElem_mem hj)
   congr 2
   simp;omega)
  rw [List.length_map,hl] at this
  exact this
end Go.Proofs.YtnaebigoknfndaaGreatDoor
namespace Go.Proofs.YtnaebigoknfndaaGreatDoor
def IdOK (l:List Nat):Prop:=1≤l.length∧l.length≤8∧∀ x∈l,97≤x∧x≤122
def BOK (id:List Nat) (i s:Nat):Prop:=IdOK id∧i<2147483648∧1≤s∧s<2147483648
def fourL (n:Nat):List Nat:=[n / 16777216 % 256,n / 65536 % 256,n / 256 % 256,n % 256]
def numL (l:List Nat):Nat:=l.getD 0 0 * 16777216+l.getD 1 0 * 65536+l.getD 2 0 * 256+l.getD 3 0
def plainL (id:List Nat) (i s:Nat):List Nat:=[72,id.length]++id++fourL i++fourL s
def encL (id:List Nat) (i s:Nat):List Nat:=plainL id i s++fourL (crcOf (plainL id i s))
theorem fourL_len (n:Nat):(fourL n).length=4:=rfl
theorem fourL_bytes (n:Nat):Bytes (fourL n):=by
 intro x hx
 simp [fourL] at hx
 omega
theorem numL_four {n:Nat} (h:n<4294967296) (r:List Nat):numL (fourL n++r)=n:=by
 simp [numL,fourL,List.getD]
 omega
theorem IdOK.bytes {l:List Nat} (h:IdOK l):Bytes l:=fun x hx=>by have:=h.2.2 x hx;omega
theorem plainL_len (id:List Nat) (i s:Nat):(plainL id i s).length=10+id.length:=by simp [plainL,fourL_len];omega
theorem encL_len (id:List Nat) (i s:Nat):(encL id i s).length=14+id.length:=by simp [encL,plainL_len,fourL_len];omega
theorem Bytes.app {a b:List Nat} (ha:Bytes a) (hb:Bytes b):Bytes (a++b):=fun x hx=>by
 rcases List.mem_append.1 hx with h | h
 ·exact ha x h
 ·exact hb x h
theorem plainL_bytes {id:List Nat} {i s:Nat} (h:IdOK id):Bytes (plainL id i s):=by
 refine ((Bytes.app (fun x hx=>?_) h.bytes).app (fourL_bytes i)).app (fourL_bytes s)
 have h2:=h.2.1
 simp at hx
 omega
theorem encL_bytes {id:List Nat} {i s:Nat} (h:IdOK id):Bytes (encL id i s):=(plainL_bytes h).app (fourL_bytes _)
def decE (l:List Nat):Nat:=
 if l.length<2 then 8
 else if l.getD 0 0≠72∨l.getD 1 0<1∨8<l.getD 1 0 then 3
 else if l.length<14+l.getD 1 0 then 8
 else if 14+l.getD 1 0<l.length then 3
 else if crcOf (l.take (10+l.getD 1 0))≠numL (l.drop (10+l.getD 1 0)) then 9
 else 0
def decId (l:List Nat):List Nat:=(l.drop 2).take (l.getD 1 0)
def decI (l:List Nat):Nat:=numL (l.drop (2+l.getD 1 0))
def decS (l:List Nat):Nat:=numL (l.drop (6+l.getD 1 0))
theorem dec_enc {id:List Nat} {i s:Nat} (h:BOK id i s):decE (encL id i s)=0∧decId (encL id i s)=id∧decI (encL id i s)=i∧decS (encL id i s)=s:=by
 obtain ⟨⟨h1,h2,h3⟩,hi,_,hs⟩:=h
 obtain ⟨c,hc⟩:∃ c,crcOf (plainL id i s)=c:=⟨_,rfl⟩
 have hcl:c<4294967296:=by rw [← hc];exact crcOf_lt (plainL_bytes ⟨h1,h2,h3⟩)
 have hl:=encL_len id i s
 have g0:(encL id i s).getD 0 0=72:=by simp [encL,plainL,List.getD]
 have g1:(encL id i s).getD 1 0=id.length:=by simp [encL,plainL,List.getD]
 have t10:(encL id i s).take (10+id.length)=plainL id i s:=by
  unfold encL;rw [List.take_append_of_le_length (by rw [plainL_len];omega),List.take_of_length_le (by rw [plainL_len];omega)]
 have d10:(encL id i s).drop (10+id.length)=fourL c:=by
  unfold encL;rw [hc,List.drop_append_of_le_length (by rw [plainL_len];omega),List.drop_of_length_le (by rw [plainL_len];omega)];rfl
 have ee:encL id i s = [72,id.length]++(id++(fourL i++(fourL s++fourL c))):=by rw [← hc];simp [encL,plainL]
 have d2:(encL id i s).drop 2=id++(fourL i++(fourL s++fourL c)):=by rw [ee];rfl
 have dk:(encL id i s).drop (2+id.length)=fourL i++(fourL s++fourL c):=by rw [← List.drop_drop,d2,List.drop_left]
 have d6:(encL id i s).drop (6+id.length)=fourL s++fourL c:=by rw [show 6+id.length=2+id.length+4 by omega,← List.drop_drop,dk];rfl
 refine ⟨?_,?_,?_,?_⟩
 ·unfold decE
  rw [g0,g1,hl,t10,d10,hc,if_neg (by omega),if_neg (by omega),if_neg (by omega),if_neg (by omega),if_neg]
  have:=numL_four hcl []
  rw [List.append_nil] at this
  rw [this]
  simp
 ·unfold decId;rw [g1,d2,List.take_left]
 ·unfold decI;rw [g1,dk];exact numL_four (by omega) _
 ·unfold decS;rw [g1,d6];exact numL_four (by omega) _
end Go.Proofs.YtnaebigoknfndaaGreatDoor
namespace Go.Proofs.YtnaebigoknfndaaGreatDoor
open Go.RowKit
theorem run_text (w:World) {b n c:Nat} {l:List Nat} (hb:Bytes l) (hl:l.length=n) (h:∀ j,j<n→w.cell? ⟨b,j,none⟩=some (bv (l.getD j 0))) :
  (convert 39 9 (.slice (some ⟨b,0,none⟩) n c)).run Tryz.prog w=.ok (.string (mkB l)) w:=by
 have:=run_convert_bytes_back w 39 9 5 ⟨b,0,none⟩ c (l.map UInt8.ofNat) Tryz.underlying39 Tryz.underlying5 Tryz.underlying9 (fun j hj=>by
  rw [List.length_map] at hj
  rw [Go.WideShapes.add_plain,Nat.zero_add,h j (by omega)]
  have e:l.getD j 0=l[j]:=by simp [List.getD,hj]
  have:=hb l[j] (List.getElem_mem hj)
  rw [e]
  simp only [List.getElem_map,bv]
  congr 2
  simp;omega)
 rw [List.length_map,hl] at this
 exact this
end Go.Proofs.YtnaebigoknfndaaGreatDoor
namespace Go.Proofs.YtnaebigoknfndaaGreatDoor
open Go.RowKit
theorem byte_at {s:ByteArray} {k:Nat} (h:k<s.size):(s[k]'h).toNat=(byts s).getD k 0:=(byts_get s h).symm
theorem str_len (s:ByteArray):s.toList.length=s.size:=by rw [ByteArray.toList_eq,Array.length_toList];rfl
theorem not_nil {s:ByteArray} (h:1≤s.size):¬ s.toList = []:=fun e=>by
 have:=str_len s
 rw [e] at this
 simp at this
 omega
theorem not_empty {s:ByteArray} (h:1≤s.size):s.toList.isEmpty=false:=by
 have:=not_nil h
 simpa [List.isEmpty_iff] using this
theorem id_ok (s:ByteArray) (w:World) (h:IdOK (byts s)) :
  Calls Tryz.prog 169 #[.string s] w fun e w'=>e=.returned (.bool true)∧w=w':=by
 obtain ⟨h1,h2,h3⟩:=h
 rw [byts_len] at h1 h2
 have hne:=not_nil h1
 have hne2:=not_empty h1
 have hg:¬ (8:Int)<s.size:=by omega
 have H3:=Lib.hid h3
 clear h3
 go_enter Tryz.func169,Tryz.ntmps169
 go_wp2_with fail
 go_loop [13] (fun i=>∃ k:Nat,k≤s.size∧i=.int .i64 k) (fun i=>s.size - (intOf i).toNat)
 case atStart=>exact ⟨0,Nat.zero_le _,rfl⟩
 case round=>
  obtain ⟨k,hk,rfl⟩:=hrel
  by_cases hlt:k<s.size
  ·obtain ⟨x,hx⟩:∃ x:UInt8,s[k]'hlt=x:=⟨_,rfl⟩
   have hm:x.toNat∈byts s:=by
    rw [← hx,byte_at hlt,List.getD_eq_getElem?_getD,List.getElem?_eq_getElem (by rw [byts_len];exact hlt)]
    exact List.getElem_mem _
   have hb:=H3.out _ hm
   obtain ⟨X,hX⟩:∃ X,x.toNat=X:=⟨_,rfl⟩
   rw [hX] at hb
   have hb1:¬ (X:Int)<97:=by omega
   have hb2:¬ (122:Int)<X:=by omega
   clear hm
   go_wp2_with fail
   go_round
   case rel=>exact ⟨k+1,by omega,by go_num⟩
   case measure=>simp [intOf];omega
  ·obtain rfl:s.size=k:=by omega
   go_wp2_with fail
   go_ret
   exact ⟨rfl,rfl⟩
theorem id_bad (s:ByteArray) (w:World) (hm:s.size≤9223372036854775807) (h:¬ IdOK (byts s)) :
  Calls Tryz.prog 169 #[.string s] w fun e w'=>e=.returned (.bool false)∧w=w':=by
 by_cases h1:1≤s.size
 ·have hne:=not_nil h1
  have hne2:=not_empty h1
  by_cases h2:s.size≤8
  ·have hg:¬ (8:Int)<s.size:=by omega
   have hex:∃ k0,k0<s.size∧¬ (97≤(byts s).getD k0 0∧(byts s).getD k0 0≤122)∧∀ j,j<k0→97≤(byts s).getD j 0∧(byts s).getD j 0≤122:=by
    have:∀ n,n≤s.size→(∀ j,j<n→97≤(byts s).getD j 0∧(byts s).getD j 0≤122)∨∃ k0,k0<s.size∧¬ (97≤(byts s).getD k0 0∧(byts s).getD k0 0≤122)∧∀ j,j<k0→97≤(byts s).getD j 0∧(byts s).getD j 0≤122:=by
     intro n
     induction n with
     | zero=>intro _;exact .inl (fun j hj=>absurd hj (by omega))
     | succ n ih=>
      intro hn
      rcases ih (by omega) with a | a
      ·by_cases c:97≤(byts s).getD n 0∧(byts s).getD n 0≤122
       ·left
        intro j hj
        rcases Nat.lt_or_ge j n with g | g
        ·exact a j g
        ·obtain rfl:j=n:=by omega
         exact c
       ·exact .inr ⟨n,by omega,c,a⟩
      ·exact .inr a
    rcases this s.size (Nat.le_refl _) with a | a
    ·exfalso
     refine h ⟨by rw [byts_len];exact h1,by rw [byts_len];exact h2,fun x hx=>?_⟩
     obtain ⟨j,hj,rfl⟩:=List.getElem_of_mem hx
     have:=a j (by rw [byts_len] at hj;exact hj)
     simpa [List.getD,hj] using this
    ·exact a
   obtain ⟨k0,k1,k2,k3⟩:=hex
   have K2:=Lib.hid k2
   have K3:=Lib.hid k3
   clear h k2 k3
   go_enter Tryz.func169,Tryz.ntmps169
   go_wp2_with fail
   go_loop [13] (fun i=>∃ k:Nat,k≤k0∧i=.int .i64 k) (fun i=>s.size - (intOf i).toNat)
   case atStart=>exact ⟨0,Nat.zero_le _,rfl⟩
   case round=>
    obtain ⟨k,hk,rfl⟩:=hrel
    have hlt:k<s.size:=by omega
    obtain ⟨x,hx⟩:∃ x:UInt8,s[k]'hlt=x:=⟨_,rfl⟩
    obtain ⟨X,hX⟩:∃ X,x.toNat=X:=⟨_,rfl⟩
    have he:(byts s).getD k 0=X:=by rw [← byte_at hlt,hx,hX]
    by_cases hk0:k<k0
    ·have hb:=K3.out k hk0
     rw [he] at hb
     have hb1:¬ (X:Int)<97:=by omega
     have hb2:¬ (122:Int)<X:=by omega
     clear he
     go_wp2_with fail
     go_round
     case rel=>exact ⟨k+1,by omega,by go_num⟩
     case measure=>simp [intOf];omega
    ·obtain rfl:k0=k:=by omega
     have hb:=K2.out
     rw [he] at hb
     clear he
     by_cases c:X<97
     ·have hb1:(X:Int)<97:=by omega
      go_wp2_with fail
      go_ret
      exact ⟨rfl,rfl⟩
     ·have hb1:¬ (X:Int)<97:=by omega
      have hb2:(122:Int)<X:=by omega
      go_wp2_with fail
      go_ret
      exact ⟨rfl,rfl⟩
  ·have hg:(8:Int)<s.size:=by omega
   clear h
   go_enter Tryz.func169,Tryz.ntmps169
   go_wp2_with fail
   go_ret
   exact ⟨rfl,rfl⟩
 ·have e0:s.toList = []:=List.eq_nil_of_length_eq_zero (by rw [str_len];omega)
  have e1:s.toList.isEmpty=true:=by rw [e0];rfl
  clear h
  go_enter Tryz.func169,Tryz.ntmps169
  go_wp2_with fail
  go_ret
  exact ⟨rfl,rfl⟩
theorem bcheck_ok (s:ByteArray) (i q:Int) (w:World) (h:IdOK (byts s)) (hi:0≤i∧i<2147483648) (hq:1≤q∧q<2147483648) :
  Calls Tryz.prog 174 #[.agg #[.string s,.int .i64 i,.int .i64 q]] w fun e w'=>e=.returned (.int .i64 0)∧Below w.heap.size w w':=by
 have qa:=alloc_cells
 have qf:=alloc_frozens
 have HI:=Lib.hid (fun w'=>id_ok s w' h)
 clear h
 obtain ⟨i1,i2⟩:=hi
 obtain ⟨q1,q2⟩:=hq
 go_enter Tryz.func174,Tryz.ntmps174
 go_wp2_with fail
 refine (HI.out _).mono ?_
 rintro e w' ⟨rfl,rfl⟩
 go_wp2_with fail
 go_ret
 exact ⟨rfl,(by repeat (first | (with_reducible exact Below.refl _ _) | (with_reducible refine bAl ?_ _) | (with_reducible refine bSc ?_ _) | (with_reducible refine Below.drew ?_) | (refine Below.trans ?_ (by assumption))))⟩
theorem bcheck_form (s:ByteArray) (i q:Int) (w:World) (hm:s.size≤9223372036854775807) (h:¬ IdOK (byts s)) :
  Calls Tryz.prog 174 #[.agg #[.string s,.int .i64 i,.int .i64 q]] w fun e w'=>e=.returned (.int .i64 3)∧Below w.heap.size w w':=by
 have qa:=alloc_cells
 have qf:=alloc_frozens
 have HI:=Lib.hid (fun w'=>id_bad s w' hm h)
 clear h
 go_enter Tryz.func174,Tryz.ntmps174
 go_wp2_with fail
 refine (HI.out _).mono ?_
 rintro e w' ⟨rfl,rfl⟩
 go_wp2_with fail
 go_ret
 exact ⟨rfl,(by repeat (first | (with_reducible exact Below.refl _ _) | (with_reducible refine bAl ?_ _) | (with_reducible refine bSc ?_ _) | (with_reducible refine Below.drew ?_) | (refine Below.trans ?_ (by assumption))))⟩
theorem bcheck_arg (s:ByteArray) (i q:Int) (w:World) (h:IdOK (byts s)) (hb:¬ ((0≤i∧i<2147483648)∧1≤q∧q<2147483648)) :
  Calls Tryz.prog 174 #[.agg #[.string s,.int .i64 i,.int .i64 q]] w fun e w'=>e=.returned (.int .i64 1)∧Below w.heap.size w w':=by
 have qa:=alloc_cells
 have qf:=alloc_frozens
 have HI:=Lib.hid (fun w'=>id_ok s w' h)
 clear h
 have hc:i<0∨(0≤i∧2147483648≤i)∨(0≤i∧¬ 2147483648≤i∧q<1)∨(0≤i∧¬ 2147483648≤i∧1≤q∧2147483648≤q):=by omega
 clear hb
 rcases hc with h1 | ⟨h1,h2⟩ | ⟨h1,h2,h3⟩ | ⟨h1,h2,h3,h4⟩
 all_goals
  go_enter Tryz.func174,Tryz.ntmps174
  go_wp2_with fail
  refine (HI.out _).mono ?_
  rintro e w' ⟨rfl,rfl⟩
  go_wp2_with fail
  go_ret
  exact ⟨rfl,(by repeat (first | (with_reducible exact Below.refl _ _) | (with_reducible refine bAl ?_ _) | (with_reducible refine bSc ?_ _) | (with_reducible refine Below.drew ?_) | (refine Below.trans ?_ (by assumption))))⟩
theorem four_cells (w:World) (n:Nat) (hn:n<4294967296):∀ j,j<4→(w.alloc (.cells #[.int .u8 ((n:Int) / 16777216),.int .u8 ((n:Int) / 65536 % 256),.int .u8 ((n:Int) / 256 % 256),.int .u8 ((n:Int) % 256)] 5)).cell? ⟨w.heap.size,j,none⟩=some (bv ((fourL n).getD j 0)):=by
 intro j hj
 rw [World.cell?_alloc_new]
 match j,hj with
 | 0,_=>simp [fourL,bv];omega
 | 1,_=>simp [fourL,bv]
 | 2,_=>simp [fourL,bv]
 | 3,_=>simp [fourL,bv]
theorem four_ok (n:Nat) (w:World) (hn:n<4294967296) :
  Calls Tryz.prog 177 #[.int .i64 n] w fun e w'=>e=.returned (.string (mkB (fourL n)))∧Below w.heap.size w w':=by
 have hn':(n:Int)<4294967296:=by omega
 have qa:=alloc_cells
 have qf:=alloc_frozens
 go_enter Tryz.func177,Tryz.ntmps177
 go_wp2_with fail
 rw [run_text (w.alloc (.cells #[.int .u8 ((n:Int) / 16777216),.int .u8 ((n:Int) / 65536 % 256),.int .u8 ((n:Int) / 256 % 256),.int .u8 ((n:Int) % 256)] 5)) (b:=w.heap.size) (n:=4) (c:=4) (l:=fourL n) (fourL_bytes n) rfl (four_cells w n hn)]
 go_wp2_with fail
 go_ret
 exact ⟨rfl,(by repeat (first | (with_reducible exact Below.refl _ _) | (with_reducible refine bAl ?_ _) | (with_reducible refine bSc ?_ _) | (with_reducible refine Below.drew ?_) | (refine Below.trans ?_ (by assumption))))⟩
theorem or_parts {a b i:Nat} (h:b<2 ^ i):a * 2 ^ i ||| b=a * 2 ^ i+b:=by
 rw [Nat.mul_comm a];exact (Nat.two_pow_add_eq_or_of_lt h a).symm
theorem or_four (A B C D:Nat) (ha:A<2 ^ 8) (hb:B<2 ^ 8) (hc:C<2 ^ 8) (hd:D<2 ^ 8) :
  bits .or .i64 (bits .or .i64 (bits .or .i64 (IntKind.i64.wrap (IntKind.i64.wrap (A:Int) * 16777216)) (IntKind.i64.wrap (IntKind.i64.wrap (B:Int) * 65536))) (IntKind.i64.wrap (IntKind.i64.wrap (C:Int) * 256))) (IntKind.i64.wrap (D:Int))=((A * 16777216+B * 65536+C * 256+D:Nat):Int):=by
 have w0:∀ x:Nat,x<4294967296→IntKind.i64.wrap (x:Int)=x:=fun x hx=>IntWalk.i64_in _ (by omega)
 rw [w0 A (by omega),w0 B (by omega),w0 C (by omega),w0 D (by omega)]
 have e1:IntKind.i64.wrap ((A:Int) * 16777216)=((A * 16777216:Nat):Int):=w0 (A * 16777216) (by omega)
 have e2:IntKind.i64.wrap ((B:Int) * 65536)=((B * 65536:Nat):Int):=w0 (B * 65536) (by omega)
 have e3:IntKind.i64.wrap ((C:Int) * 256)=((C * 256:Nat):Int):=w0 (C * 256) (by omega)
 rw [e1,e2,e3]
 have o1:A * 16777216 ||| B * 65536=A * 16777216+B * 65536:=or_parts (i:=24) (by omega)
 rw [i64_or_nat _ _ (by omega) (by omega),o1]
 have o2:A * 16777216+B * 65536 ||| C * 256=A * 16777216+B * 65536+C * 256:=by
  have:=or_parts (a:=A * 256+B) (b:=C * 256) (i:=16) (by omega)
  rwa [show (A * 256+B) * 2 ^ 16=A * 16777216+B * 65536 by omega] at this
 rw [i64_or_nat _ _ (by omega) (by omega),o2]
 have o3:A * 16777216+B * 65536+C * 256 ||| D=A * 16777216+B * 65536+C * 256+D:=by
  have:=or_parts (a:=A * 65536+B * 256+C) (b:=D) (i:=8) (by omega)
  rwa [show (A * 65536+B * 256+C) * 2 ^ 8=A * 16777216+B * 65536+C * 256 by omega] at this
 rw [i64_or_nat _ _ (by omega) (by omega),o3]
theorem number_ok (s:ByteArray) (w:World) (hs:4≤s.size) (hm:s.size≤9223372036854775807) :
  Calls Tryz.prog 178 #[.string s] w fun e w'=>e=.returned (.int .i64 (numL (byts s)))∧Below w.heap.size w w':=by
 have h0:0<s.size:=by omega
 have h1:1<s.size:=by omega
 have h2:2<s.size:=by omega
 have h3:3<s.size:=by omega
 obtain ⟨a,ha⟩:∃ x:UInt8,s[0]'h0=x:=⟨_,rfl⟩
 obtain ⟨b,hb⟩:∃ x:UInt8,s[1]'h1=x:=⟨_,rfl⟩
 obtain ⟨c,hc⟩:∃ x:UInt8,s[2]'h2=x:=⟨_,rfl⟩
 obtain ⟨d,hd⟩:∃ x:UInt8,s[3]'h3=x:=⟨_,rfl⟩
 have ab:=UInt8.toNat_lt a
 have bb:=UInt8.toNat_lt b
 have cb:=UInt8.toNat_lt c
 have db:=UInt8.toNat_lt d
 obtain ⟨A,hA⟩:∃ X,a.toNat=X:=⟨_,rfl⟩
 obtain ⟨B,hB⟩:∃ X,b.toNat=X:=⟨_,rfl⟩
 obtain ⟨C,hC⟩:∃ X,c.toNat=X:=⟨_,rfl⟩
 obtain ⟨D,hD⟩:∃ X,d.toNat=X:=⟨_,rfl⟩
 rw [hA] at ab
 rw [hB] at bb
 rw [hC] at cb
 rw [hD] at db
 have e:numL (byts s)=A * 16777216+B * 65536+C * 256+D:=by
  unfold numL
  rw [byts_get s h0,byts_get s h1,byts_get s h2,byts_get s h3,ha,hb,hc,hd,hA,hB,hC,hD]
 have hof:=or_four A B C D ab bb cb db
 rw [e]
 have k1:(0:Int)<s.size:=by omega
 have k2:(1:Int)<s.size:=by omega
 have k3:(2:Int)<s.size:=by omega
 have k4:(3:Int)<s.size:=by omega
 have HO:=Lib.hid hof
 clear e hof
 go_enter Tryz.func178,Tryz.ntmps178
 go_wp2_with fail
 refine wp_region_quiet_all (Ext _) (by kernel_rfl) (by kernel_rfl) (Ext.drawn _) ?_
 repeat (first | go_big_quiet_skip | go_big_quiet_step (fail) | (refine BigFrame.wpQuiet_want rfl (fun K hK=>?_);apply Exists.intro;refine ⟨fun w2 h2=>?_,?_⟩;(next=>(have g1:=Below.cells h2.below;have g2:=Below.frozens h2.below;(try simp only [World.size_alloc,World.size_setCell] at g1 g2);first | (go_simp;fail) | (simp [go_sem,↓IntWalk.iteOmega, *];done) | (simp [go_sem,↓IntWalk.iteOmega, *];rfl))));(go_simp;refine hK _ ?_;clear hK K))
 refine wpQuiet_nil ?_
 intro w1 h1
 have hb1:=h1.below
 clear h1
 have z1:=hb1.size
 have c1:=Below.cells hb1
 have f1:=Below.frozens hb1
 try simp only [World.size_alloc,World.size_setCell,World.size_drew] at z1 c1 f1
 go_wp2_with fail
 rw [HO.out]
 go_ret
 exact ⟨rfl,hb1⟩
end Go.Proofs.YtnaebigoknfndaaGreatDoor
namespace Go.Proofs.YtnaebigoknfndaaGreatDoor
open Go Go.RowKit
theorem grown_trans {w w1 w2:World} {row:Option Nat} (h:w.grownBy w1 row) (k:w1.grownBy w2 row):w.grownBy w2 row:=
 ⟨k.os.trans h.os,k.tape.trans h.tape,k.output.trans h.output,Nat.le_trans h.size k.size,fun i hi hr=>(k.block i (Nat.lt_of_lt_of_le hi h.size) hr).trans (h.block i hi hr)⟩
theorem grown_below {w w1:World} {row:Option Nat} (h:Below w.heap.size w w1):w.grownBy w1 row:=⟨h.os,h.tape,h.output,h.size,fun k hk _=>h.block k hk⟩
theorem grown_set (w:World) (b o:Nat) (u:Value):w.grownBy (w.setCell ⟨b,o,none⟩ u) (some b):=⟨rfl,rfl,rfl,by simp [World.setCell],fun k _ hr=>Below.heap_setCell _ _ _ _ (fun e=>hr (by rw [e]))⟩
end Go.Proofs.YtnaebigoknfndaaGreatDoor
namespace Go.Proofs.YtnaebigoknfndaaGreatDoor
open Go Go.RowKit
section
variable {P:Program} {ops:Array Oper} {md:Region.Mode} {W:World}
def mildUpon (P:Program) (w:World) (v:Value):Result Next→Prop
 | .ok (.value u) w'=>w'=w∧u=v
 | .ok .skip w'=>w'=w∧v=undef
 | .ok (.enter f args) w'=>w'=w∧Calls P f args w (fun e w''=>e=.returned v∧Below w.heap.size w w'')
 | _=>False
def mildAt (P:Program) (o:Oper) (a:Act) (w:World) (v:Value):Prop:=mildUpon P w v ((execOp a.eval o).run P w)
def Makes (P:Program) (o:Oper) (z:Array Value) (T:TypeId):Prop:=
 o.guard=none∧∀ (ev:Operand→Value) (w:World),(execOp ev o).run P w=.ok (.value (.pointer (some ⟨w.heap.size,0,none⟩))) (w.alloc (.cells z T))
abbrev Blocks:=Nat→Option (Nat×Array Value×TypeId)
def Blocks.fresh (β:Blocks) (b:Nat):Prop:=∀ k x,β k=some (b,x)→False
def Blocks.put (β:Blocks) (i b:Nat) (z:Array Value) (T:TypeId):Blocks:=fun k=>if k=i then some (b,z,T) else β k
structure St (W:World) (β:Blocks) (w:World):Prop where
 below:Below W.heap.size W w
 block:∀ k b z T,β k=some (b,z,T)→W.heap.size≤b∧w.heap[b]? = some (.cells z T)
theorem St.lt {β:Blocks} {w:World} (h:St W β w) {k b:Nat} {z:Array Value} {T:TypeId} (hk:β k=some (b,z,T)):b<w.heap.size:=by
 have:=(h.block k b z T hk).2
 rcases Nat.lt_or_ge b w.heap.size with h | h
 ·exact h
 ·simp [Array.getElem?_eq_none h] at this
theorem St.step {β:Blocks} {w w':World} (h:St W β w) (hb:Below w.heap.size w w'):St W β w':=
 ⟨h.below.trans (hb.mono h.below.size),fun k b z T hk=>⟨(h.block k b z T hk).1,by rw [hb.block b (h.lt hk)];exact (h.block k b z T hk).2⟩⟩
theorem St.make {β:Blocks} {w:World} (h:St W β w) (i:Nat) (z:Array Value) (T:TypeId):St W (β.put i w.heap.size z T) (w.alloc (.cells z T)):=by
 have hs:=h.step ((Below.refl w.heap.size w).alloc (Nat.le_refl _) (.cells z T))
 refine ⟨hs.below,fun k b z' T' hk=>?_⟩
 unfold Blocks.put at hk
 split at hk
 ·simp only [Option.some.injEq,Prod.mk.injEq] at hk
  obtain ⟨rfl,rfl,rfl⟩:=hk
  refine ⟨h.below.size,?_⟩
  show (w.heap.push _)[w.heap.size]? = _
  simp
 ·exact hs.block k b z' T' hk
theorem St.set {β:Blocks} {w:World} (h:St W β w) {k b:Nat} {z:Array Value} {T:TypeId} (hk:β k=some (b,z,T)) (hone:∀ k' z' T',β k'=some (b,z',T')→k'=k) (o:Nat) (v:Value) :
  St W (β.put k b (z.setIfInBounds o v) T) (w.setCell ⟨b,o,none⟩ v):=by
 have hb:=h.block k b z T hk
 refine ⟨h.below.setCell hb.1 v,fun k' b' z' T' hk'=>?_⟩
 unfold Blocks.put at hk'
 split at hk'
 ·simp only [Option.some.injEq,Prod.mk.injEq] at hk'
  obtain ⟨rfl,rfl,rfl⟩:=hk'
  refine ⟨hb.1,?_⟩
  simp [World.setCell,Array.getElem?_modify,hb.2]
 ·rename_i hne
  have h':=h.block k' b' z' T' hk'
  refine ⟨h'.1,?_⟩
  have:b'≠b:=fun e=>hne (hone k' z' T' (e ▸ hk'))
  rw [Below.heap_setCell w _ _ _ this]
  exact h'.2
def tailUpon (P:Program) (W:World) (β:Blocks) (w:World) (v:Value):Result Next→Prop
 | .ok (.value u) w'=>u=v∧St W β w'
 | .ok .skip w'=>v=undef∧St W β w'
 | _=>False
def tailAt (P:Program) (W:World) (o:Oper) (a:Act) (β:Blocks) (w:World) (v:Value):Prop:=tailUpon P W β w v ((execOp a.eval o).run P w)
def kindOp (P:Program) (W:World) (o:Oper) (i:Nat) (K:Act→Blocks→Prop) (a:Act) (β:Blocks):Prop:=
 (∃ v,(∀ w,Below W.heap.size W w→mildAt P o a w v)∧K (a.put o.dst v) β) ∨
 (∃ z T,Makes P o z T∧∀ b,β.fresh b→K (a.put o.dst (.pointer (some ⟨b,0,none⟩))) (β.put i b z T)) ∨
 (∃ v β',(∀ w,St W β w→tailAt P W o a β' w v)∧K (a.put o.dst v) β')
def eOp (P:Program) (ops:Array Oper) (W:World) (i:Nat) (K:Act→Blocks→Prop) (a:Act) (β:Blocks):Prop:=
 match ops[i]? with
 | none=>K a β
 | some o=>if Region.wanted o (yielded ops a.tmps) then kindOp P W o i K a β else K (a.put o.dst undef) β
theorem kindOp_mono {o:Oper} {i:Nat} {a:Act} {β:Blocks} {K K':Act→Blocks→Prop} (h:∀ a β,K a β→K' a β) (hh:kindOp P W o i K a β):kindOp P W o i K' a β:=by
 rcases hh with ⟨v,h1,h2⟩ | ⟨z,T,h1,h2⟩ | ⟨v,β',h1,h2⟩
 ·exact .inl ⟨v,h1,h _ _ h2⟩
 ·exact .inr (.inl ⟨z,T,h1,fun b hb=>h _ _ (h2 b hb)⟩)
 ·exact .inr (.inr ⟨v,β',h1,h _ _ h2⟩)
theorem eOp_mono {i:Nat} {a:Act} {β:Blocks} {K K':Act→Blocks→Prop} (h:∀ a β,K a β→K' a β) (hh:eOp P ops W i K a β):eOp P ops W i K' a β:=by
 unfold eOp at *
 cases hi:ops[i]? with
 | none=>simp only [hi] at hh;exact h _ _ hh
 | some o=>
  simp only [hi] at hh ⊢
  by_cases hw:Region.wanted o (yielded ops a.tmps)=true
  ·simp only [hw,if_true] at hh ⊢;exact kindOp_mono h hh
  ·simp only [hw,Bool.false_eq_true,if_false] at hh ⊢;exact h _ _ hh
theorem wpOp_of_eOp {i:Nat} {a:Act} {β:Blocks} {K:Act→Blocks→Prop} {K':Act→World→Prop} {Q':Exit→Act→World→Prop} {w:World} (hw:St W β w) (h:∀ a β w',St W β w'→K a β→K' a w')
  (hh:eOp P ops W i K a β):wpOp P ops Q' i K' a w:=by
 unfold eOp at hh
 unfold wpOp
 cases hi:ops[i]? with
 | none=>simp only [hi] at hh ⊢;exact h _ _ _ hw hh
 | some o=>
  simp only [hi] at hh ⊢
  by_cases hwn:Region.wanted o (yielded ops a.tmps)=true
  ·simp only [hwn,if_true] at hh ⊢
   left
   unfold Oper.wp
   rcases hh with ⟨v,h1,h2⟩ | ⟨z,T,⟨hg,hm⟩,h2⟩ | ⟨v,β',h1,h2⟩
   ·have h3:=h1 w hw.below
    unfold mildAt at h3
    generalize (execOp a.eval o).run P w=r at *
    cases r with
    | ok nx w'=>
     cases nx <;> simp only [mildUpon] at h3 <;> simp only [Oper.upon]
     case value u=>obtain ⟨e1,e2⟩:=h3;rw [e1,e2];exact h _ _ _ hw h2
     case skip=>obtain ⟨e1,e2⟩:=h3;rw [e1,← e2];exact h _ _ _ hw h2
     case enter f args=>
      obtain ⟨e1,hc⟩:=h3
      rw [e1]
      exact hc.mono fun e w'' ⟨he,hb⟩=>by subst he;exact h _ _ _ (hw.step hb) h2
    | halt x w'=>simp only [mildUpon] at h3
   ·rw [hm a.eval w]
    simp only [Oper.upon]
    exact h _ _ _ (hw.make i z T) (h2 w.heap.size fun k x hk=>by have:=hw.lt (z:=x.1) (T:=x.2) hk;omega)
   ·have h3:=h1 w hw
    unfold tailAt at h3
    generalize (execOp a.eval o).run P w=r at *
    cases r with
    | ok nx w'=>
     cases nx <;> simp only [tailUpon] at h3 <;> simp only [Oper.upon]
     case value u=>obtain ⟨e1,e2⟩:=h3;rw [e1];exact h _ _ _ e2 h2
     case skip=>obtain ⟨e1,e2⟩:=h3;rw [← e1];exact h _ _ _ e2 h2
    | halt x w'=>simp only [tailUpon] at h3
  ·simp only [hwn,Bool.false_eq_true,if_false] at hh ⊢
   exact h _ _ _ hw hh
def anyE (P:Program) (md:Region.Mode) (ops:Array Oper) (W:World) (L:Act→Blocks→Prop):Nat→Array Bool→Act→Blocks→Prop
 | 0,listed,a,β=>Region.ready md ops listed = []∧L a β
 | f+1,listed,a,β=>(Region.ready md ops listed = []→L a β)∧∀ i∈Region.ready md ops listed,eOp P ops W i (anyE P md ops W L f (listed.setIfInBounds i true)) a β
theorem wpAny_of_anyE {L:Act→Blocks→Prop} {Q':Exit→Act→World→Prop} (hL:∀ a β w,St W β w→L a β→Q' .normal a w) :
  ∀ (f:Nat) (listed:Array Bool) (a:Act) (β:Blocks) (w:World),St W β w→anyE P md ops W L f listed a β→wpAny P md ops Q' f listed a w:=by
 intro f
 induction f with
 | zero=>intro listed a β w hw h;exact ⟨h.1,hL _ _ _ hw h.2⟩
 | succ f ih=>
  intro listed a β w hw h
  exact ⟨fun h0=>hL _ _ _ hw (h.1 h0),fun i hi=>wpOp_of_eOp hw (fun a' β' w' hw' h'=>ih _ a' β' w' hw' h') (h.2 i hi)⟩
def MildIn (P:Program) (ops:Array Oper) (W:World) (o:Oper) (v:Value) (a:Act):Prop:=
 (Region.wanted o (yielded ops a.tmps)=true∧∀ w,Below W.heap.size W w→mildAt P o a w v)∨(Region.wanted o (yielded ops a.tmps)=false∧v=undef)
theorem MildIn.of_same {o:Oper} {v:Value} {a a':Act} (hy:MildIn P ops W o v a) (he:execOp a'.eval o=execOp a.eval o)
  (hw:Region.wanted o (yielded ops a'.tmps)=Region.wanted o (yielded ops a.tmps)):MildIn P ops W o v a':=by
 unfold MildIn mildAt at *
 rw [he,hw]
 exact hy
theorem MildIn.eOp {i:Nat} {o:Oper} {v:Value} {a:Act} {β:Blocks} (hi:ops[i]? = some o) (hy:MildIn P ops W o v a) {K:Act→Blocks→Prop} (h:K (a.put o.dst v) β):eOp P ops W i K a β:=by
 unfold Proofs.YtnaebigoknfndaaGreatDoor.eOp
 simp only [hi]
 rcases hy with ⟨hw,hv⟩ | ⟨hw,rfl⟩
 ·simp only [hw,if_true];exact .inl ⟨v,hv,h⟩
 ·simp only [hw,Bool.false_eq_true,if_false];exact h
theorem eOp_put {j:Nat} {oi oj:Oper} {v:Value} (hj:ops[j]? = some oj) (hap:oi.apart ops oj=true) (hsi:∀ cs b,oi.op≠.select cs b) (hsj:∀ cs b,oj.op≠.select cs b)
  {K:Act→Blocks→Prop} {a:Act} {β:Blocks} (hy:MildIn P ops W oi v a) (h:eOp P ops W j K (a.put oi.dst v) β) :
  eOp P ops W j (fun a' β'=>MildIn P ops W oi v a'∧K (a'.put oi.dst v) β') a β:=by
 obtain ⟨h1,h2,h3⟩:=Oper.apart_spec hap
 have keep:∀ u,MildIn P ops W oi v (a.put oj.dst u):=fun u=>hy.of_same (execOp_put oi hsi a oj.dst u h3) (wanted_put oi a oj.dst u h3)
 have ex:execOp (a.put oi.dst v).eval oj=execOp a.eval oj:=execOp_put oj hsj a oi.dst v h1
 have co:∀ u,(a.put oi.dst v).put oj.dst u=(a.put oj.dst u).put oi.dst v:=fun u=>Act.put_comm a v u h2
 unfold eOp at *
 simp only [hj] at *
 rw [wanted_put oj a oi.dst v h1] at h
 by_cases hw:Region.wanted oj (yielded ops a.tmps)=true
 ·simp only [hw,if_true] at *
  rcases h with ⟨u,hu,hn⟩ | ⟨z,T,hm,hn⟩ | ⟨u,β',hu,hn⟩
  ·exact .inl ⟨u,fun w hw'=>by have:=hu w hw';unfold mildAt at *;rwa [ex] at this,keep u,by rw [← co];exact hn⟩
  ·exact .inr (.inl ⟨z,T,hm,fun b hb=>⟨keep _,by rw [← co];exact hn b hb⟩⟩)
  ·exact .inr (.inr ⟨u,β',fun w hw'=>by have:=hu w hw';unfold tailAt at *;rwa [ex] at this,keep u,by rw [← co];exact hn⟩)
 ·simp only [hw,Bool.false_eq_true,if_false] at *
  exact ⟨keep _,by rw [← co];exact h⟩
theorem anyE_first {i:Nat} {oi:Oper} {v:Value} {L:Act→Blocks→Prop} (hi:ops[i]? = some oi) (hsel:∀ (j:Nat) (o:Oper) cs b,ops[j]? = some o→o.op≠.select cs b) :
  ∀ (f:Nat) (listed:Array Bool) (a:Act) (β:Blocks),
   (∀ j oj,ops[j]? = some oj→j≠i→listed.getD j true=false→(∀ e∈oj.after,Region.binds md e=true→e.on≠i)→oi.apart ops oj=true) →
   i∈Region.ready md ops listed→MildIn P ops W oi v a →
   anyE P md ops W L f (listed.setIfInBounds i true) (a.put oi.dst v) β→anyE P md ops W L (f+1) listed a β:=by
 intro f
 induction f with
 | zero=>
  intro listed a β _ hr hy H
  refine ⟨fun h=>(by rw [h] at hr;cases hr),fun j hj=>?_⟩
  by_cases hji:j=i
  ·subst hji;exact hy.eOp hi H
  ·have:=ready_mono hj hji
   rw [H.1] at this
   cases this
 | succ f ih=>
  intro listed a β hfree hr hy H
  refine ⟨fun h=>(by rw [h] at hr;cases hr),fun j hj=>?_⟩
  by_cases hji:j=i
  ·subst hji;exact hy.eOp hi H
  ·obtain ⟨hjun,oj,hoj,hall⟩:=mem_ready.1 hj
   have step:=eOp_put hoj (hfree j oj hoj hji hjun (unlisted_not_bound hr hall)) (fun cs b=>hsel i oi cs b hi) (fun cs b=>hsel j oj cs b hoj) hy (H.2 j (ready_mono hj hji))
   refine eOp_mono (fun a' β' h3=>ih (listed.setIfInBounds j true) a' β' ?_ (ready_mono hr (Ne.symm hji)) h3.1 ?_) step
   ·intro k ok hk hki hun hno
    refine hfree k ok hk hki ?_ hno
    by_cases hjk:j=k
    ·subst hjk;exact hjun
    ·rwa [getD_set_ne true hjk] at hun
   ·rw [Array.setIfInBounds_comm _ _ hji]
    exact h3.2
def wpMild (P:Program) (ops:Array Oper) (W:World) (Q:Act→Prop):List Oper→Act→Prop
 | [],a=>Q a
 | o :: rest,a=>if Region.wanted o (yielded ops a.tmps) then ∃ v,(∀ w,Below W.heap.size W w→mildAt P o a w v)∧wpMild P ops W Q rest (a.put o.dst v) else wpMild P ops W Q rest (a.put o.dst undef)
def wpRest (P:Program) (ops:Array Oper) (W:World) (Q:Act→Blocks→Prop):Nat→List Oper→Act→Blocks→Prop
 | _,[],a,β=>Q a β
 | k,o :: rest,a,β=>if Region.wanted o (yielded ops a.tmps) then kindOp P W o k (wpRest P ops W Q (k+1) rest) a β else wpRest P ops W Q (k+1) rest (a.put o.dst undef) β
theorem wpMild_nil {Q:Act→Prop} {a:Act} (h:Q a):wpMild P ops W Q [] a:=h
theorem wpMild_step {Q:Act→Prop} {a:Act} {o:Oper} {rest:List Oper} (hw:Region.wanted o (yielded ops a.tmps)=true)
  (h:∀ K:Act→Prop,(∀ a,wpMild P ops W Q rest a→K a)→∃ v,(∀ w,Below W.heap.size W w→mildAt P o a w v)∧K (a.put o.dst v)):wpMild P ops W Q (o :: rest) a:=by
 unfold wpMild;rw [if_pos hw];exact h _ fun _ h=>h
theorem wpMild_skip {Q:Act→Prop} {a:Act} {o:Oper} {rest:List Oper} (hw:Region.wanted o (yielded ops a.tmps)=false) (h:wpMild P ops W Q rest (a.put o.dst undef)):wpMild P ops W Q (o :: rest) a:=by
 unfold wpMild;rw [if_neg (by rw [hw];exact Bool.false_ne_true)];exact h
theorem anyE_rest {Q:Act→Blocks→Prop}:∀ (l:List Oper) (k:Nat) (listed:Array Bool) (a:Act) (β:Blocks),(∀ j,l[j]? = ops[k+j]?) →
  Region.seqB md ops l.length k listed=true→wpRest P ops W Q k l a β→anyE P md ops W Q l.length listed a β:=by
 intro l
 induction l with
 | nil=>intro k listed a β _ hB h;exact ⟨by simpa [Region.seqB] using hB,h⟩
 | cons o l ih=>
  intro k listed a β hl hB h
  have h0:ops[k]? = some o:=by simpa using (hl 0).symm
  simp only [List.length_cons,Region.seqB,Bool.and_eq_true,decide_eq_true_eq] at hB
  refine ⟨fun h1=>(by rw [hB.1] at h1;cases h1),fun i hi=>?_⟩
  rw [hB.1] at hi
  obtain rfl:i=k:=by simpa using hi
  have hk:eOp P ops W i (wpRest P ops W Q (i+1) l) a β:=by unfold eOp;simp only [h0];exact h
  exact eOp_mono (fun a' β' h'=>ih (i+1) _ a' β' (fun j=>by have:=hl (j+1);simpa [Nat.add_assoc,Nat.add_comm 1 j] using this) hB.2 h') hk
theorem anyE_lex {n g:Nat} {Q:Act→Blocks→Prop} (hsel:Region.noSelect ops=true) (lr:List Oper) (hlr:lr.length=g) (hro:∀ j,lr[j]? = ops[n+j]?) :
  ∀ (l:List Oper) (k:Nat) (listed:Array Bool) (a:Act) (β:Blocks),(∀ j,j<l.length→l[j]? = ops[k+j]?)→k+l.length=n →
  Region.lexHead md ops g l.length k listed=true→wpMild P ops W (fun a'=>wpRest P ops W Q n lr a' β) l a →
  anyE P md ops W Q (l.length+g) listed a β:=by
 intro l
 induction l with
 | nil=>
  intro k listed a β _ hk hB h
  obtain rfl:k=n:=by simpa using hk
  simp only [List.length_nil,Nat.zero_add]
  rw [← hlr]
  exact anyE_rest lr k listed a β hro (by rw [hlr];simpa [Region.lexHead] using hB) h
 | cons o l ih=>
  intro k listed a β hl hk hB h
  have h0:ops[k]? = some o:=by simpa using (hl 0 (by simp)).symm
  simp only [List.length_cons,Region.lexHead,Bool.and_eq_true] at hB
  have hr:k∈Region.ready md ops listed:=by simpa using hB.1.1
  have hy:∃ v,MildIn P ops W o v a∧wpMild P ops W (fun a'=>wpRest P ops W Q n lr a' β) l (a.put o.dst v):=by
   unfold wpMild at h
   by_cases hw:Region.wanted o (yielded ops a.tmps)=true
   ·rw [if_pos hw] at h
    obtain ⟨v,h1,h2⟩:=h
    exact ⟨v,.inl ⟨hw,h1⟩,h2⟩
   ·rw [if_neg hw] at h
    exact ⟨undef,.inr ⟨by simpa using hw,rfl⟩,h⟩
  obtain ⟨v,hy,hK⟩:=hy
  have el:(o :: l).length+g=(l.length+g)+1:=by simp only [List.length_cons];omega
  rw [el]
  refine anyE_first h0 (Region.noSelect_spec hsel) _ listed a β (Region.free_spec h0 hB.1.2) hr hy ?_
  refine ih (k+1) _ _ _ (fun j hj=>?_) (by simp only [List.length_cons] at hk;omega) hB.2 hK
  have:=hl (j+1) (by simp;omega)
  simpa [Nat.add_assoc,Nat.add_comm 1 j] using this
def lexRestB (md:Region.Mode) (ops:Array Oper) (n:Nat):Bool:=Region.noSelect ops && decide (n≤ops.size) && Region.lexHead md ops (ops.size - n) n 0 (Array.replicate ops.size false)
theorem wp_region_rest {id:Nat} {Q:Exit→Act→World→Prop} {a:Act} {w:World} {l:List Oper} (n:Nat) (hm:P.follows .mixedOrders=true) (hB:lexRestB .any l.toArray n=true)
  (h:wpMild P l.toArray w.drew (fun a'=>wpRest P l.toArray w.drew (fun a'' β=>∀ w',St w.drew β w'→Q .normal a'' w') n (l.drop n) a' (fun _=>none)) (l.take n) a):(Code.region id l.toArray true).wp P Q a w:=by
 simp only [lexRestB,Bool.and_eq_true,decide_eq_true_eq] at hB
 obtain ⟨⟨hsel,hn⟩,hlex⟩:=hB
 have hn':n≤l.length:=by simpa using hn
 have htl:(l.take n).length=n:=by simp;omega
 have H:=anyE_lex (md:=.any) (W:=w.drew) (n:=n) (g:=l.toArray.size - n) hsel (l.drop n) (by simp) (fun j=>by simp [List.getElem?_drop]) (l.take n) 0 (Array.replicate l.toArray.size false) a (fun _=>none)
  (fun j hj=>by have hj':j<n:=(by rw [htl] at hj;exact hj);simp [hj']) (by simpa using htl) (by rw [htl];exact hlex) h
 refine wp_region_any hm ?_
 have st0:St w.drew (fun _=>none) { w with drawn:=w.drawn+1 }:=⟨Below.refl _ _,fun _ _ _ _ hk=>by cases hk⟩
 have fin:=wpAny_of_anyE (Q':=Q) (fun a' β w' hw' hL=>hL w' hw') _ _ _ _ _ st0 H
 rwa [htl,show n+(l.toArray.size - n)=l.toArray.size by simp;omega] at fin
theorem Below.undrew {w w':World} (h:Below w.drew.heap.size w.drew w'):Below w.heap.size w w':=⟨h.os,h.tape,h.output,h.size,h.block⟩
theorem rest_make {Q:Act→Blocks→Prop} {k:Nat} {o:Oper} {rest:List Oper} {a:Act} {β:Blocks} (z:Array Value) (T:TypeId) (hw:Region.wanted o (yielded ops a.tmps)=true) (hm:Makes P o z T)
  (h:∀ b,β.fresh b→wpRest P ops W Q (k+1) rest (a.put o.dst (.pointer (some ⟨b,0,none⟩))) (β.put k b z T)):wpRest P ops W Q k (o :: rest) a β:=by
 unfold wpRest;rw [if_pos hw];exact .inr (.inl ⟨z,T,hm,h⟩)
theorem rest_mild {Q:Act→Blocks→Prop} {k:Nat} {o:Oper} {rest:List Oper} {a:Act} {β:Blocks} (hw:Region.wanted o (yielded ops a.tmps)=true)
  (h:∀ K:Act→Prop,(∀ a,wpRest P ops W Q (k+1) rest a β→K a)→∃ v,(∀ w,Below W.heap.size W w→mildAt P o a w v)∧K (a.put o.dst v)):wpRest P ops W Q k (o :: rest) a β:=by
 unfold wpRest;rw [if_pos hw];exact .inl (h (fun a'=>wpRest P ops W Q (k+1) rest a' β) fun _ h=>h)
theorem rest_tail {Q:Act→Blocks→Prop} {k:Nat} {o:Oper} {rest:List Oper} {a:Act} {β:Blocks} (β':Blocks) (hw:Region.wanted o (yielded ops a.tmps)=true) (hd:o.dst=none)
  (h:∀ w,St W β w→tailAt P W o a β' w undef) (hn:wpRest P ops W Q (k+1) rest a β'):wpRest P ops W Q k (o :: rest) a β:=by
 unfold wpRest;rw [if_pos hw]
 refine .inr (.inr ⟨undef,β',h,?_⟩)
 have:a.put o.dst undef=a:=by rw [hd];rfl
 rw [this];exact hn
theorem rest_nil {Q:Act→Blocks→Prop} {k:Nat} {a:Act} {β:Blocks} (h:Q a β):wpRest P ops W Q k [] a β:=h
def oneBlock (k b:Nat) (z:Array Value) (T:TypeId):Blocks:=fun i=>if i=k then some (b,z,T) else none
theorem oneBlock_of (k b:Nat) (z:Array Value) (T:TypeId):Blocks.put (fun _=>none) k b z T=oneBlock k b z T:=rfl
theorem St.one {k b:Nat} {z:Array Value} {T:TypeId} {w:World} (h:St W (oneBlock k b z T) w):W.heap.size≤b∧w.heap[b]? = some (.cells z T):=h.block k b z T (by simp [oneBlock])
theorem St.one_lt {k b:Nat} {z:Array Value} {T:TypeId} {w:World} (h:St W (oneBlock k b z T) w):b<w.heap.size:=h.lt (k:=k) (z:=z) (T:=T) (by simp [oneBlock])
theorem St.one_set {k b:Nat} {z:Array Value} {T:TypeId} {w:World} (h:St W (oneBlock k b z T) w) (o:Nat) (v:Value):St W (oneBlock k b (z.setIfInBounds o v) T) (w.setCell ⟨b,o,none⟩ v):=by
 have:=h.set (k:=k) (b:=b) (z:=z) (T:=T) (by simp [oneBlock]) (fun k' z' T' hk=>by unfold oneBlock at hk;split at hk <;> simp_all) o v
 have e:(oneBlock k b z T).put k b (z.setIfInBounds o v) T=oneBlock k b (z.setIfInBounds o v) T:=by
  funext i;unfold Blocks.put oneBlock;split <;> simp_all
 rwa [e] at this
theorem block_cells {w:World} {b:Nat} {z:Array Value} {T:TypeId} (h:w.heap[b]? = some (.cells z T)):(∀ o,w.cell? ⟨b,o,none⟩=z[o]?)∧(∀ o,w.frozen? ⟨b,o,none⟩=false):=
 ⟨fun o=>by simp [World.cell?,h],fun o=>by simp [World.frozen?,h]⟩
end
end Go.Proofs.YtnaebigoknfndaaGreatDoor
namespace Go.Proofs.YtnaebigoknfndaaGreatDoor
open Go Go.RowKit
abbrev BN:=Nat→Nat×Value
inductive Res where
 | cells (z:BN→Array Value) (T:TypeId)
 | own (G:Value→World→Prop)
abbrev Ress:=Nat→Option Res
def Ress.put (β:Ress) (k:Nat) (r:Res):Ress:=fun j=>if j=k then some r else β j
theorem Ress.put_def (β:Ress) (k:Nat) (r:Res):β.put k r=fun j=>if j=k then some r else β j:=rfl
def ptrOf (b:Nat):Value:=.pointer (some ⟨b,0,none⟩)
def slcOf (n:Nat) (b:Nat):Value:=.slice (some ⟨b,0,none⟩) n n
def updo (β:Ress):Option (Nat×Res)→Ress
 | none=>β
 | some (k,r)=>β.put k r
theorem updo_out {β:Ress} {u:Option (Nat×Res)} {F:List Nat} (hu:∀ k r,u=some (k,r)→k∈F) {j:Nat} (hj:j∉F):updo β u j=β j:=by
 cases u with
 | none=>rfl
 | some x=>
  obtain ⟨k,r⟩:=x
  have:j≠k:=fun e=>hj (e ▸ hu k r rfl)
  simp [updo,Ress.put,this]
theorem updo_comm {β:Ress} {u u':Option (Nat×Res)} {F F':List Nat} (hu:∀ k r,u=some (k,r)→k∈F) (hu':∀ k r,u'=some (k,r)→k∈F') (hd:∀ k∈F,k∉F') :
  updo (updo β u) u'=updo (updo β u') u:=by
 cases u with
 | none=>rfl
 | some x=>
  cases u' with
  | none=>rfl
  | some y=>
   obtain ⟨k,r⟩:=x
   obtain ⟨k',r'⟩:=y
   have hne:k≠k':=fun e=>hd k (hu k r rfl) (e ▸ hu' k' r' rfl)
   funext j
   simp only [updo,Ress.put]
   by_cases h1:j=k'
   ·subst h1;simp [Ne.symm hne]
   ·simp [h1]
def putMany (z:Array Value) (l:List (Nat×Value)):Array Value:=l.foldl (fun z p=>z.setIfInBounds p.1 p.2) z
def setMany (w:World) (b:Nat) (l:List (Nat×Value)):World:=l.foldl (fun w p=>w.setCell ⟨b,p.1,none⟩ p.2) w
def Cont {α:Type} (F:List Nat) (v:BN→α):Prop:=∀ B B':BN,(∀ k∈F,B k=B' k)→v B=v B'
def ContD {α:Type} (β:Ress) (v:BN→α):Prop:=∀ B B':BN,(∀ k,β k≠none→B k=B' k)→v B=v B'
def Stable (G:Value→World→Prop):Prop:=∀ u w w',G u w→Below w.heap.size w w'→G u w'
section
variable {P:Program} {ops:Array Oper} {md:Region.Mode} {W:World} {st:Bool}
def fitsRes (W:World) (B:BN) (k:Nat) (w:World):Res→Prop
 | .cells z T=>W.heap.size≤(B k).1∧w.heap[(B k).1]? = some (.cells (z B) T)
 | .own G=>G (B k).2 w
theorem fitsRes.congr {B B':BN} {k:Nat} {w:World} {r:Res} (hz:∀ z T,r=.cells z T→z B=z B') (hk:B' k=B k) (h:fitsRes W B k w r):fitsRes W B' k w r:=by
 cases r with
 | cells z T=>simp only [fitsRes] at *;rw [hk,← hz z T rfl];exact h
 | own G=>simp only [fitsRes] at *;rw [hk];exact h
structure StF (W:World) (F:List Nat) (β:Ress) (B:BN) (w:World):Prop where
 below:Below W.heap.size W w
 fits:∀ k r,k∈F→β k=some r→fitsRes W B k w r
structure StA (W:World) (st:Bool) (β:Ress) (B:BN) (w:World):Prop where
 below:Below W.heap.size W w
 fits:∀ k r,β k=some r→fitsRes W B k w r
 inj:∀ k k' z T z' T',β k=some (.cells z T)→β k'=some (.cells z' T')→(B k).1=(B k').1→k=k'
 pure:st=true→∀ k r,β k=some r→∃ z T,r=.cells z T
 stab:∀ k G,β k=some (.own G)→Stable G
theorem StA.toF {β:Ress} {B:BN} {w:World} (h:StA W st β B w) (F:List Nat):StF W F β B w:=⟨h.below,fun k r _ hk=>h.fits k r hk⟩
theorem StF.of_eq {β β':Ress} {B:BN} {w:World} {F:List Nat} (h:StF W F β B w) (he:∀ k∈F,β' k=β k):StF W F β' B w:=⟨h.below,fun k r hk hr=>h.fits k r hk (by rw [← he k hk];exact hr)⟩
theorem lt_of_some {w:World} {b:Nat} {x:Obj} (h:w.heap[b]? = some x):b<w.heap.size:=by
 rcases Nat.lt_or_ge b w.heap.size with h' | h'
 ·exact h'
 ·simp [Array.getElem?_eq_none h'] at h
theorem StA.step {β:Ress} {B:BN} {w w':World} (h:StA W st β B w) (hb:Below w.heap.size w w'):StA W st β B w':=by
 refine ⟨h.below.trans (hb.mono h.below.size),fun k r hk=>?_,h.inj,h.pure,h.stab⟩
 have hf:=h.fits k r hk
 cases r with
 | cells z T=>exact ⟨hf.1,by rw [hb.block _ (lt_of_some hf.2)];exact hf.2⟩
 | own G=>exact h.stab k G hk _ _ _ hf hb
theorem StA.setOne {β:Ress} {B:BN} {w:World} (hw:StA W st β B w) (h3:st=true) {k:Nat} {z z':BN→Array Value} {T:TypeId} (h4:β k=some (.cells z T)) (off:Nat) (x:Value) (hz:z' B=(z B).setIfInBounds off x) :
  StA W st (β.put k (.cells z' T)) B (w.setCell ⟨(B k).1,off,none⟩ x):=by
 refine ⟨hw.below.setCell (hw.fits k _ h4).1 _,fun k' r hk'=>?_,?_,?_,?_⟩
 ·have hb:=hw.fits k _ h4
  by_cases e:k'=k
  ·subst e
   simp only [Ress.put,if_true,Option.some.injEq] at hk'
   subst hk'
   refine ⟨hb.1,?_⟩
   have hb2:=hb.2
   rw [hz]
   simp [World.setCell,Array.getElem?_modify,hb2]
  ·simp only [Ress.put,if_neg e] at hk'
   obtain ⟨z',T',rfl⟩:=hw.pure h3 k' r hk'
   have h':=hw.fits k' _ hk'
   refine ⟨h'.1,?_⟩
   have:(B k').1≠(B k).1:=fun e'=>e (hw.inj k' k _ _ _ _ hk' h4 e')
   rw [Below.heap_setCell w _ _ _ this]
   exact h'.2
 ·intro k1 k2 z1 T1 z2 T2 hk1 hk2 hB
  have some':∀ {q zz TT},(β.put k (.cells z' T)) q=some (.cells zz TT)→∃ z' T',β q=some (.cells z' T'):=fun {q zz TT} hq=>by
   by_cases e:q=k
   ·exact ⟨_,_,e ▸ h4⟩
   ·simp only [Ress.put,if_neg e] at hq;exact ⟨_,_,hq⟩
  obtain ⟨_,_,g1⟩:=some' hk1
  obtain ⟨_,_,g2⟩:=some' hk2
  exact hw.inj k1 k2 _ _ _ _ g1 g2 hB
 ·intro e k' r hk'
  by_cases e':k'=k
  ·simp only [Ress.put,if_pos e',Option.some.injEq] at hk';exact ⟨_,_,hk'.symm⟩
  ·simp only [Ress.put,if_neg e'] at hk';exact hw.pure e k' r hk'
 ·intro k' G hk'
  by_cases e':k'=k
  ·simp [Ress.put,if_pos e'] at hk'
  ·simp only [Ress.put,if_neg e'] at hk';exact hw.stab k' G hk'
theorem Ress.put_put (β:Ress) (k:Nat) (r r':Res):(β.put k r).put k r'=β.put k r':=by
 funext j
 unfold Ress.put
 by_cases h:j=k <;> simp [h]
theorem StA.setMany {k:Nat} {T:TypeId} {B:BN} (h3:st=true):∀ (l:List (Nat×Value)) {β:Ress} {w:World} {z z':BN→Array Value},StA W st β B w→β k=some (.cells z T)→z' B=putMany (z B) l →
  StA W st (β.put k (.cells z' T)) B (Proofs.YtnaebigoknfndaaGreatDoor.setMany w (B k).1 l):=by
 intro l
 induction l with
 | nil=>
  intro β w z z' hw h4 hz
  have hz:z' B=z B:=hz
  refine ⟨hw.below,fun k' r hk'=>?_,?_,?_,?_⟩
  ·by_cases e:k'=k
   ·subst e
    simp only [Ress.put,if_true,Option.some.injEq] at hk'
    subst hk'
    have:=hw.fits k' _ h4
    simp only [fitsRes] at this ⊢
    rw [hz]
    exact this
   ·simp only [Ress.put,if_neg e] at hk';exact hw.fits k' r hk'
  ·intro k1 k2 z1 T1 z2 T2 hk1 hk2 hB
   have some':∀ {q zz TT},(β.put k (.cells z' T)) q=some (.cells zz TT)→∃ z' T',β q=some (.cells z' T'):=fun {q zz TT} hq=>by
    by_cases e:q=k
    ·exact ⟨_,_,e ▸ h4⟩
    ·simp only [Ress.put,if_neg e] at hq;exact ⟨_,_,hq⟩
   obtain ⟨_,_,g1⟩:=some' hk1
   obtain ⟨_,_,g2⟩:=some' hk2
   exact hw.inj k1 k2 _ _ _ _ g1 g2 hB
  ·intro e k' r hk'
   by_cases e':k'=k
   ·simp only [Ress.put,if_pos e',Option.some.injEq] at hk';exact ⟨_,_,hk'.symm⟩
   ·simp only [Ress.put,if_neg e'] at hk';exact hw.pure e k' r hk'
  ·intro k' G hk'
   by_cases e':k'=k
   ·simp [Ress.put,if_pos e'] at hk'
   ·simp only [Ress.put,if_neg e'] at hk';exact hw.stab k' G hk'
 | cons p l ih=>
  intro β w z z' hw h4 hz
  have h1:=hw.setOne h3 h4 p.1 p.2 (z':=fun _=>(z B).setIfInBounds p.1 p.2) rfl
  have h2:=ih h1 (z:=fun _=>(z B).setIfInBounds p.1 p.2) (z':=z') (by simp [Ress.put]) hz
  rw [Ress.put_put] at h2
  exact h2
def ownUpon (P:Program) (w:World) (G:Value→World→Prop):Result Next→Prop
 | .ok (.enter f args) w'=>w'=w∧Calls P f args w (fun e w''=>∃ u,e=.returned u∧G u w''∧Below w.heap.size w w'')
 | _=>False
def ownAt (P:Program) (o:Oper) (a:Act) (w:World) (G:Value→World→Prop):Prop:=ownUpon P w G ((execOp a.eval o).run P w)
def Valid (P:Program) (ops:Array Oper) (W:World) (st:Bool) (F:List Nat) (o:Oper) (i:Nat) (a:BN→Act) (β:Ress) (v:BN→Value) (u:Option (Nat×Res)):Prop:=
 ((∀ B,Region.wanted o (yielded ops (a B).tmps)=true) ∧
    ((u=none∧(∀ k∈F,β k≠none)∧∀ B w,StF W F β B w→mildAt P o (a B) w (v B)) ∨
     (∃ (z:Array Value) (T:TypeId) (f:Nat→Value),i∈F∧β i=none∧u=some (i,.cells (fun _=>z) T)∧v=(fun B=>f (B i).1)∧∀ B w,StF W F β B w→(execOp (a B).eval o).run P w=.ok (.value (f w.heap.size)) (w.alloc (.cells z T))) ∨
     (∃ (k:Nat) (z:BN→Array Value) (T:TypeId) (x:BN→List (Nat×Value)),k∈F∧(∀ k∈F,β k≠none)∧st=true∧β k=some (.cells z T)∧Cont F x∧u=some (k,.cells (fun B=>putMany (z B) (x B)) T)∧v=(fun _=>undef) ∧
       ∀ B w,StF W F β B w→(execOp (a B).eval o).run P w=.ok .skip (setMany w (B k).1 (x B))) ∨
     (∃ G,i∈F∧β i=none∧st=false∧Stable G∧u=some (i,.own G)∧v=(fun B=>(B i).2)∧∀ B w,StF W F β B w→ownAt P o (a B) w G))) ∨
 ((∀ B,Region.wanted o (yielded ops (a B).tmps)=false)∧u=none∧v=fun _=>undef)
theorem Valid.congr {F:List Nat} {o:Oper} {i:Nat} {a a':BN→Act} {β β':Ress} {v:BN→Value} {u:Option (Nat×Res)}
  (hx:∀ B,execOp (a' B).eval o=execOp (a B).eval o) (hw:∀ B,Region.wanted o (yielded ops (a' B).tmps)=Region.wanted o (yielded ops (a B).tmps)) (hβ:∀ k∈F,β' k=β k)
  (h:Valid P ops W st F o i a β v u):Valid P ops W st F o i a' β' v u:=by
 have sf:∀ B w,StF W F β' B w→StF W F β B w:=fun B w hs=>hs.of_eq fun k hk=>(hβ k hk).symm
 have ne:(∀ k∈F,β k≠none)→∀ k∈F,β' k≠none:=fun h k hk=>by rw [hβ k hk];exact h k hk
 rcases h with ⟨h0,h⟩ | ⟨h0,h1,h2⟩
 ·refine .inl ⟨fun B=>by rw [hw];exact h0 B,?_⟩
  rcases h with ⟨h1,h2,h3⟩ | ⟨z,T,f,h1,h2,h3,h4,h5⟩ | ⟨k,z,T,x,h1,h2,h3,h4,h5,h6,h7,h8⟩ | ⟨G,h1,h2,h3,h4,h5,h6,h7⟩
  ·exact .inl ⟨h1,ne h2,fun B w hs=>by have:=h3 B w (sf B w hs);unfold mildAt at *;rw [hx];exact this⟩
  ·exact .inr (.inl ⟨z,T,f,h1,by rw [hβ i h1];exact h2,h3,h4,fun B w hs=>by rw [hx];exact h5 B w (sf B w hs)⟩)
  ·exact .inr (.inr (.inl ⟨k,z,T,x,h1,ne h2,h3,by rw [hβ k h1];exact h4,h5,h6,h7,fun B w hs=>by rw [hx];exact h8 B w (sf B w hs)⟩))
  ·exact .inr (.inr (.inr ⟨G,h1,by rw [hβ i h1];exact h2,h3,h4,h5,h6,fun B w hs=>by have:=h7 B w (sf B w hs);unfold ownAt at *;rw [hx];exact this⟩))
 ·exact .inr ⟨fun B=>by rw [hw];exact h0 B,h1,h2⟩
structure Reg (a:BN→Act) (β:Ress):Prop where
 act:ContD β a
 res:∀ k z T,β k=some (.cells z T)→ContD β z
theorem wpOp_of_valid {F:List Nat} {o:Oper} {i:Nat} {a:BN→Act} {β:Ress} {v:BN→Value} {u:Option (Nat×Res)} {B:BN} {w:World} {K':Act→World→Prop} {Q':Exit→Act→World→Prop}
  (ho:ops[i]? = some o) (hw:StA W st β B w) (hr:Reg a β) (hc:Cont F v) (hv:Valid P ops W st F o i a β v u)
  (h:∀ B' w',StA W st (updo β u) B' w'→Reg (fun B=>(a B).put o.dst (v B)) (updo β u)→K' ((a B').put o.dst (v B')) w'):wpOp P ops Q' i K' (a B) w:=by
 unfold wpOp
 simp only [ho]
 rcases hv with ⟨h0,hv⟩ | ⟨h0,rfl,rfl⟩
 ·rw [if_pos (h0 B)]
  left
  unfold Oper.wp
  rcases hv with ⟨rfl,h2,h3⟩ | ⟨z,T,f,h1,h2,rfl,rfl,h5⟩ | ⟨k,z,T,x,h1,h2,h3,h4,h5,rfl,rfl,h8⟩ | ⟨G,h1,h2,h3,h4,rfl,rfl,h7⟩
  ·have hreg:Reg (fun B=>(a B).put o.dst (v B)) β:=⟨fun B B' hB=>by rw [show a B=a B' from hr.act B B' hB,hc B B' fun k hk=>hB k (h2 k hk)],hr.res⟩
   have h3:=h3 B w (hw.toF F)
   unfold mildAt at h3
   generalize (execOp (a B).eval o).run P w=r at *
   cases r with
   | ok nx w'=>
    cases nx <;> simp only [mildUpon] at h3 <;> simp only [Oper.upon]
    case value u=>obtain ⟨e1,e2⟩:=h3;rw [e1,e2];exact h _ _ hw hreg
    case skip=>obtain ⟨e1,e2⟩:=h3;rw [e1,← e2];exact h _ _ hw hreg
    case enter f args=>
     obtain ⟨e1,hc⟩:=h3
     rw [e1]
     exact hc.mono fun e w'' ⟨he,hb⟩=>by subst he;exact h _ _ (hw.step hb) hreg
   | halt x w'=>simp only [mildUpon] at h3
  ·rw [h5 B w (hw.toF F)]
   simp only [Oper.upon]
   have agree:∀ k,β k≠none→B k=(fun j=>if j=i then (w.heap.size,undef) else B j) k:=fun k hk=>by
    have:k≠i:=fun e=>hk (e ▸ h2)
    simp [this]
   have hs:=hw.step ((Below.refl w.heap.size w).alloc (Nat.le_refl _) (.cells z T))
   have:=h (fun j=>if j=i then (w.heap.size,undef) else B j) (w.alloc (.cells z T)) ?_ ?_
   ·rw [show a B=a _ from hr.act B _ agree]
    simpa using this
   ·refine ⟨hs.below,fun k r hk=>?_,?_,?_,?_⟩
    ·by_cases hki:k=i
     ·subst hki
      simp only [updo,Ress.put,if_true,Option.some.injEq] at hk
      subst hk
      refine ⟨by simp only [if_true];exact hw.below.size,?_⟩
      simp only [if_true]
      show (w.heap.push _)[w.heap.size]? = _
      simp
     ·simp only [updo,Ress.put,if_neg hki] at hk
      exact (hs.fits k r hk).congr (fun z' T' e=>hr.res k z' T' (e ▸ hk) B _ agree) (by simp [hki])
    ·intro k k' z' T' z'' T'' hk hk' hB
     have old:∀ {q:Nat} {zz:BN→Array Value} {TT:TypeId},q≠i→(updo β (some (i,.cells (fun _=>z) T))) q=some (.cells zz TT)→(B q).1<w.heap.size:=fun {q zz TT} hq hs'=>by
      simp only [updo,Ress.put,if_neg hq] at hs'
      exact lt_of_some (hw.fits q _ hs').2
     by_cases e1:k=i
     ·by_cases e2:k'=i
      ·rw [e1,e2]
      ·have:=old e2 hk'
       simp [e1,e2] at hB
       omega
     ·by_cases e2:k'=i
      ·have:=old e1 hk
       simp [e1,e2] at hB
       omega
      ·simp [e1,e2] at hB
       simp only [updo,Ress.put,if_neg e1] at hk
       simp only [updo,Ress.put,if_neg e2] at hk'
       exact hw.inj k k' _ _ _ _ hk hk' hB
    ·intro e k r hk
     by_cases hki:k=i
     ·simp only [updo,Ress.put,if_pos hki,Option.some.injEq] at hk;exact ⟨_,_,hk.symm⟩
     ·simp only [updo,Ress.put,if_neg hki] at hk;exact hw.pure e k r hk
    ·intro k G hk
     by_cases hki:k=i
     ·simp [updo,Ress.put,if_pos hki] at hk
     ·simp only [updo,Ress.put,if_neg hki] at hk;exact hw.stab k G hk
   ·have up:∀ {B1 B2:BN},(∀ k,(updo β (some (i,.cells (fun _=>z) T))) k≠none→B1 k=B2 k)→(∀ k,β k≠none→B1 k=B2 k)∧B1 i=B2 i:=fun {B1 B2} hB=>
     ⟨fun k hk=>hB k (by by_cases e:k=i <;> simp [updo,Ress.put,e,hk]),hB i (by simp [updo,Ress.put])⟩
    refine ⟨fun B1 B2 hB=>?_,fun k z' T' hk=>?_⟩
    ·obtain ⟨g1,g2⟩:=up hB
     show (a B1).put _ (f (B1 i).1)=(a B2).put _ (f (B2 i).1)
     rw [show a B1=a B2 from hr.act B1 B2 g1,g2]
    ·by_cases hki:k=i
     ·simp only [updo,Ress.put,if_pos hki,Option.some.injEq,Res.cells.injEq] at hk
      rw [← hk.1]
      exact fun _ _ _=>rfl
     ·simp only [updo,Ress.put,if_neg hki] at hk
      exact fun B1 B2 hB=>hr.res k z' T' hk B1 B2 (up hB).1
  ·rw [h8 B w (hw.toF F)]
   simp only [Oper.upon]
   have dom:∀ k',(updo β (some (k,.cells (fun B=>putMany (z B) (x B)) T))) k'≠none↔β k'≠none:=fun k'=>by
    by_cases e:k'=k
    ·subst e;simp [updo,Ress.put,h4]
    ·simp [updo,Ress.put,e]
   refine h B _ (hw.setMany h3 (x B) h4 rfl) ?_
   refine ⟨fun B1 B2 hB=>?_,fun k' z' T' hk' B1 B2 hB=>?_⟩
   ·show (a B1).put _ _=(a B2).put _ _
    rw [show a B1=a B2 from hr.act B1 B2 fun q hq=>hB q ((dom q).2 hq)]
   ·have hB':∀ q,β q≠none→B1 q=B2 q:=fun q hq=>hB q ((dom q).2 hq)
    by_cases e':k'=k
    ·simp only [updo,Ress.put,if_pos e',Option.some.injEq,Res.cells.injEq] at hk'
     rw [← hk'.1]
     show putMany (z B1) _=putMany (z B2) _
     rw [hr.res k z T h4 B1 B2 hB',h5 B1 B2 fun q hq=>hB' q (h2 q hq)]
    ·simp only [updo,Ress.put,if_neg e'] at hk'
     exact hr.res k' z' T' hk' B1 B2 hB'
  ·have h7:=h7 B w (hw.toF F)
   unfold ownAt at h7
   have agree:∀ y:Value,∀ k,β k≠none→B k=(fun j=>if j=i then (0,y) else B j) k:=fun y k hk=>by
    have:k≠i:=fun e=>hk (e ▸ h2)
    simp [this]
   have up:∀ {B1 B2:BN},(∀ k,(updo β (some (i,.own G))) k≠none→B1 k=B2 k)→(∀ k,β k≠none→B1 k=B2 k)∧B1 i=B2 i:=fun {B1 B2} hB=>
    ⟨fun k hk=>hB k (by by_cases e:k=i <;> simp [updo,Ress.put,e,hk]),hB i (by simp [updo,Ress.put])⟩
   have hreg:Reg (fun B=>(a B).put o.dst (B i).2) (updo β (some (i,.own G))):=by
    refine ⟨fun B1 B2 hB=>?_,fun k z' T' hk=>?_⟩
    ·obtain ⟨g1,g2⟩:=up hB
     show (a B1).put _ (B1 i).2=(a B2).put _ (B2 i).2
     rw [show a B1=a B2 from hr.act B1 B2 g1,g2]
    ·by_cases hki:k=i
     ·simp [updo,Ress.put,if_pos hki] at hk
     ·simp only [updo,Ress.put,if_neg hki] at hk
      exact fun B1 B2 hB=>hr.res k z' T' hk B1 B2 (up hB).1
   have main:∀ y w'',G y w''→Below w.heap.size w w''→K' ((a B).put o.dst y) w'':=fun y w'' hG hb=>by
    have hs:=hw.step hb
    have:=h (fun j=>if j=i then (0,y) else B j) w'' ⟨hs.below,fun k r hk=>?_,?_,?_,?_⟩ hreg
    ·rw [show a B=a _ from hr.act B _ (agree y)]
     simpa using this
    ·by_cases hki:k=i
     ·simp only [updo,Ress.put,if_pos hki,Option.some.injEq] at hk
      subst hk
      simpa [fitsRes,hki] using hG
     ·simp only [updo,Ress.put,if_neg hki] at hk
      exact (hs.fits k r hk).congr (fun z' T' e=>hr.res k z' T' (e ▸ hk) B _ (agree y)) (by simp [hki])
    ·intro k k' z' T' z'' T'' hk hk' hB
     have e1:k≠i:=fun e=>by simp [updo,Ress.put,if_pos e] at hk
     have e2:k'≠i:=fun e=>by simp [updo,Ress.put,if_pos e] at hk'
     simp [e1,e2] at hB
     simp only [updo,Ress.put,if_neg e1] at hk
     simp only [updo,Ress.put,if_neg e2] at hk'
     exact hw.inj k k' _ _ _ _ hk hk' hB
    ·intro e;rw [h3] at e;cases e
    ·intro k G' hk
     by_cases hki:k=i
     ·simp only [updo,Ress.put,if_pos hki,Option.some.injEq,Res.own.injEq] at hk
      exact hk ▸ h4
     ·simp only [updo,Ress.put,if_neg hki] at hk;exact hw.stab k G' hk
   generalize (execOp (a B).eval o).run P w=r at *
   cases r with
   | ok nx w'=>
    cases nx <;> simp only [ownUpon] at h7 <;> simp only [Oper.upon]
    case enter f args=>
     obtain ⟨e1,hc⟩:=h7
     rw [e1]
     exact hc.mono fun e w'' ⟨y,he,hG,hb⟩=>by subst he;exact main y w'' hG hb
   | halt x w'=>simp only [ownUpon] at h7
 ·rw [if_neg (by rw [h0 B];exact Bool.false_ne_true)]
  exact h B w hw ⟨fun B1 B2 hB=>by show (a B1).put _ _=(a B2).put _ _;rw [show a B1=a B2 from hr.act B1 B2 hB],hr.res⟩
theorem swap {Fi Fj:List Nat} {oi oj:Oper} {i j:Nat} {a:BN→Act} {β:Ress} {vi vj:BN→Value} {ui uj:Option (Nat×Res)} (hap:oi.apart ops oj=true) (hd:∀ k∈Fi,k∉Fj)
  (hsi:∀ cs b,oi.op≠.select cs b) (hsj:∀ cs b,oj.op≠.select cs b) (hui:∀ k r,ui=some (k,r)→k∈Fi) (huj:∀ k r,uj=some (k,r)→k∈Fj)
  (hi:Valid P ops W st Fi oi i a β vi ui) (hj:Valid P ops W st Fj oj j (fun B=>(a B).put oi.dst (vi B)) (updo β ui) vj uj) :
  Valid P ops W st Fj oj j a β vj uj∧Valid P ops W st Fi oi i (fun B=>(a B).put oj.dst (vj B)) (updo β uj) vi ui ∧
  (fun B=>((a B).put oi.dst (vi B)).put oj.dst (vj B))=(fun B=>((a B).put oj.dst (vj B)).put oi.dst (vi B))∧updo (updo β ui) uj=updo (updo β uj) ui:=by
 obtain ⟨h1,h2,h3⟩:=Oper.apart_spec hap
 refine ⟨hj.congr (fun B=>(execOp_put oj hsj (a B) oi.dst (vi B) h1).symm) (fun B=>(wanted_put oj (a B) oi.dst (vi B) h1).symm) (fun k hk=>(updo_out hui (fun h=>hd k h hk)).symm),
  hi.congr (fun B=>execOp_put oi hsi (a B) oj.dst (vj B) h3) (fun B=>wanted_put oi (a B) oj.dst (vj B) h3) (fun k hk=>updo_out huj (hd k hk)),?_,updo_comm hui huj hd⟩
 funext B
 exact Act.put_comm (a B) (vi B) (vj B) h2
def descB (md:Region.Mode) (ops:Array Oper) (i:Nat):List Nat:=
 (List.range ops.size).foldl (fun D j=>match ops[j]? with
   | some oj=>if oj.after.any (fun e=>Region.binds md e && (e.on==i || D.contains e.on)) then j :: D else D
   | none=>D) []
def DescOK (md:Region.Mode) (ops:Array Oper) (i:Nat) (D:List Nat):Prop:=∀ x∈D,∃ ox e,ops[x]? = some ox∧e∈ox.after∧Region.binds md e=true∧(e.on=i∨e.on∈D)
theorem descB_ok (i:Nat):DescOK md ops i (descB md ops i):=by
 unfold descB
 have:∀ (l:List Nat) (D:List Nat),DescOK md ops i D→DescOK md ops i (l.foldl (fun D j=>match ops[j]? with
  | some oj=>if oj.after.any (fun e=>Region.binds md e && (e.on==i || D.contains e.on)) then j :: D else D
  | none=>D) D):=by
  intro l
  induction l with
  | nil=>intro D h;exact h
  | cons j l ih=>
   intro D h
   simp only [List.foldl_cons]
   refine ih _ ?_
   cases hj:ops[j]? with
   | none=>exact h
   | some oj=>
    simp only
    split
    ·rename_i ha
     obtain ⟨e,he,hb⟩:=Array.any_eq_true'.1 ha
     simp only [Bool.and_eq_true,Bool.or_eq_true,beq_iff_eq,List.contains_iff_mem] at hb
     intro x hx
     rcases List.mem_cons.1 hx with rfl | hx
     ·exact ⟨oj,e,hj,he,hb.1,hb.2.imp id (List.mem_cons_of_mem _)⟩
     ·obtain ⟨ox,e',g1,g2,g3,g4⟩:=h x hx
      exact ⟨ox,e',g1,g2,g3,g4.imp id (List.mem_cons_of_mem _)⟩
    ·exact h
 exact this _ [] (fun x hx=>by cases hx)
theorem ready_not_desc {i j:Nat} {listed:Array Bool} {D:List Nat} (hD:DescOK md ops i D) (hi:listed.getD i true=false) (hun:∀ x∈D,listed.getD x true=false) (hj:j∈Region.ready md ops listed):j∉D:=by
 intro hx
 obtain ⟨ox,e,h1,h2,h3,h4⟩:=hD j hx
 obtain ⟨_,oj,hoj,hall⟩:=mem_ready.1 hj
 obtain rfl:ox=oj:=Option.some.inj (h1.symm.trans hoj)
 have h5:=hall e h2 h3
 rcases h4 with h4 | h4
 ·rw [h4,getD_both hi] at h5;cases h5
 ·rw [getD_both (hun _ h4)] at h5;cases h5
def anyG (P:Program) (md:Region.Mode) (ops:Array Oper) (W:World) (st:Bool) (foot:Nat→List Nat) (n:Nat) (L:Array Bool→(BN→Act)→Ress→Prop):Nat→Array Bool→(BN→Act)→Ress→Prop
 | 0,listed,a,β=>L listed a β
 | f+1,listed,a,β=>
  Region.ready md ops listed ≠ []∧∀ i∈Region.ready md ops listed,i<n∧∀ o,ops[i]? = some o→∃ v u,Cont (foot i) v∧(∀ k r,u=some (k,r)→k∈foot i)∧Valid P ops W st (foot i) o i a β v u ∧
   anyG P md ops W st foot n L f (listed.setIfInBounds i true) (fun B=>(a B).put o.dst (v B)) (updo β u)
theorem wpAny_of_anyG {foot:Nat→List Nat} {n g:Nat} {L:Array Bool→(BN→Act)→Ress→Prop} {Q':Exit→Act→World→Prop} (hL:∀ listed a β B w,StA W st β B w→L listed a β→wpAny P md ops Q' g listed (a B) w) :
  ∀ (f:Nat) (listed:Array Bool) (a:BN→Act) (β:Ress) (B:BN) (w:World),StA W st β B w→Reg a β→anyG P md ops W st foot n L f listed a β→wpAny P md ops Q' (f+g) listed (a B) w:=by
 intro f
 induction f with
 | zero=>intro listed a β B w hw _ h;rw [Nat.zero_add];exact hL _ _ _ _ _ hw h
 | succ f ih=>
  intro listed a β B w hw hr h
  have e:f+1+g=(f+g)+1:=by omega
  rw [e]
  refine ⟨fun h0=>absurd h0 h.1,fun i hi=>?_⟩
  obtain ⟨_,o,ho,_⟩:=mem_ready.1 hi
  obtain ⟨v,u,hc,hu,hv,hn⟩:=(h.2 i hi).2 o ho
  exact wpOp_of_valid ho hw hr hc hv fun B' w' hw' hr'=>ih _ _ _ B' w' hw' hr' hn
theorem anyG_first {foot:Nat→List Nat} {n i:Nat} {oi:Oper} {L:Array Bool→(BN→Act)→Ress→Prop} {Inv:Array Bool→Prop} (hi:ops[i]? = some oi) (hsel:∀ (j:Nat) (o:Oper) cs b,ops[j]? = some o→o.op≠.select cs b)
  (hin:i<n) (hset:∀ listed j,Inv listed→j∈Region.ready md ops listed→j<n→Inv (listed.setIfInBounds j true)) (hheads:∀ listed,Inv listed→listed.getD i true=false→∀ j∈Region.ready md ops listed,j<n)
  (hdone:∀ listed a β,L listed a β→∀ j∈Region.ready md ops listed,n≤j) {D:List Nat} (hD:DescOK md ops i D) {v:BN→Value} {u:Option (Nat×Res)} (hcv:Cont (foot i) v) (hu:∀ k r,u=some (k,r)→k∈foot i) :
  ∀ (f:Nat) (listed:Array Bool) (a:BN→Act) (β:Ress),Inv listed→(∀ x∈D,listed.getD x true=false) →
   (∀ j oj,ops[j]? = some oj→j<n→j≠i→listed.getD j true=false→j∉D→oi.apart ops oj=true∧∀ k∈foot i,k∉foot j) →
   i∈Region.ready md ops listed→Valid P ops W st (foot i) oi i a β v u →
   anyG P md ops W st foot n L f (listed.setIfInBounds i true) (fun B=>(a B).put oi.dst (v B)) (updo β u)→anyG P md ops W st foot n L (f+1) listed a β:=by
 intro f
 induction f with
 | zero=>
  intro listed a β inv hDu _ hr hv H
  refine ⟨fun h=>(by rw [h] at hr;cases hr),fun j hj=>⟨hheads _ inv (mem_ready.1 hr).1 j hj,fun o ho=>?_⟩⟩
  by_cases hji:j=i
  ·subst hji
   obtain rfl:oi=o:=Option.some.inj (hi.symm.trans ho)
   exact ⟨v,u,hcv,hu,hv,H⟩
  ·have h1:=hdone _ _ _ H j (ready_mono hj hji)
   have h2:=hheads _ inv (mem_ready.1 hr).1 j hj
   omega
 | succ f ih=>
  intro listed a β inv hDu hfree hr hv H
  have hun:=(mem_ready.1 hr).1
  refine ⟨fun h=>(by rw [h] at hr;cases hr),fun j hj=>⟨hheads _ inv hun j hj,fun o ho=>?_⟩⟩
  have hjn:=hheads _ inv hun j hj
  by_cases hji:j=i
  ·subst hji
   obtain rfl:oi=o:=Option.some.inj (hi.symm.trans ho)
   exact ⟨v,u,hcv,hu,hv,H⟩
  ·obtain ⟨hjun,_⟩:=mem_ready.1 hj
   have hjD:=ready_not_desc hD hun hDu hj
   obtain ⟨hap,hdis⟩:=hfree j o ho hjn hji hjun hjD
   obtain ⟨v',u',hc',hu',hv',hn'⟩:=(H.2 j (ready_mono hj hji)).2 o ho
   obtain ⟨g1,g2,g3,g4⟩:=swap hap hdis (fun cs b=>hsel i oi cs b hi) (fun cs b=>hsel j o cs b ho) hu hu' hv hv'
   refine ⟨v',u',hc',hu',g1,?_⟩
   refine ih (listed.setIfInBounds j true) _ _ (hset _ _ inv hj hjn) (fun x hx=>?_) (fun k ok hk hkn hki hkun hkD=>hfree k ok hk hkn hki ?_ hkD) (ready_mono hr (Ne.symm hji)) g2 ?_
   ·have:j≠x:=fun e=>hjD (e ▸ hx)
    rw [getD_set_ne true this];exact hDu x hx
   ·by_cases hjk:j=k
    ·subst hjk;exact hjun
    ·rwa [getD_set_ne true hjk] at hkun
   ·rw [Array.setIfInBounds_comm _ _ hji,← g3,← g4]
    exact hn'
def wpFlow (P:Program) (ops:Array Oper) (W:World) (st:Bool) (foot:Nat→List Nat) (Q:(BN→Act)→Ress→Prop):Nat→List Oper→(BN→Act)→Ress→Prop
 | _,[],a,β=>Q a β
 | k,o :: rest,a,β=>∃ v u,Cont (foot k) v∧(∀ j r,u=some (j,r)→j∈foot k)∧Valid P ops W st (foot k) o k a β v u∧wpFlow P ops W st foot Q (k+1) rest (fun B=>(a B).put o.dst (v B)) (updo β u)
def freeFlow (md:Region.Mode) (ops:Array Oper) (foot:Nat→List Nat) (n:Nat) (listed:Array Bool) (i:Nat):Bool:=
 match ops[i]? with
 | none=>false
 | some oi=>(descB md ops i).all (fun x=>!listed.getD x true) && (List.range n).all fun j=>j==i || listed.getD j true || (descB md ops i).contains j || match ops[j]? with
    | some oj=>oi.apart ops oj && (foot i).all (fun k=>!(foot j).contains k)
    | none=>true
def flowHead (md:Region.Mode) (ops:Array Oper) (foot:Nat→List Nat) (n:Nat) (tail:Array Bool→Bool):Nat→Nat→Array Bool→Bool
 | 0,_,listed=>tail listed
 | f+1,k,listed=>(Region.ready md ops listed).contains k && freeFlow md ops foot n listed k && flowHead md ops foot n tail f (k+1) (listed.setIfInBounds k true)
theorem anyG_lex {foot:Nat→List Nat} {n:Nat} {tail:Array Bool→Bool} {Q:(BN→Act)→Ress→Prop} {Inv:Array Bool→Prop} (hsel:Region.noSelect ops=true)
  (hset:∀ listed j,Inv listed→j∈Region.ready md ops listed→j<n→Inv (listed.setIfInBounds j true)) (hheads:∀ i,i<n→∀ listed,Inv listed→listed.getD i true=false→∀ j∈Region.ready md ops listed,j<n)
  (htail:∀ listed,tail listed=true→∀ j∈Region.ready md ops listed,n≤j) :
  ∀ (l:List Oper) (k:Nat) (listed:Array Bool) (a:BN→Act) (β:Ress),(∀ j,j<l.length→l[j]? = ops[k+j]?)→k+l.length=n→Inv listed →
  flowHead md ops foot n tail l.length k listed=true→wpFlow P ops W st foot Q k l a β →
  anyG P md ops W st foot n (fun listed' a' β'=>tail listed'=true∧Q a' β') l.length listed a β:=by
 intro l
 induction l with
 | nil=>intro k listed a β _ _ _ hB h;exact ⟨hB,h⟩
 | cons o l ih=>
  intro k listed a β hl hk inv hB h
  have h0:ops[k]? = some o:=by simpa using (hl 0 (by simp)).symm
  have hkn:k<n:=by simp only [List.length_cons] at hk;omega
  simp only [List.length_cons,flowHead,Bool.and_eq_true] at hB
  have hr:k∈Region.ready md ops listed:=by simpa using hB.1.1
  obtain ⟨v,u,hc,hu,hv,hn⟩:=h
  have hf:=hB.1.2
  simp only [freeFlow,h0,Bool.and_eq_true,List.all_eq_true,List.mem_range,Bool.not_eq_true'] at hf
  refine anyG_first h0 (Region.noSelect_spec hsel) hkn hset (hheads k hkn) (fun listed' a' β' hL=>htail _ hL.1) (descB_ok k) hc hu l.length listed a β inv hf.1 (fun j oj hj hjn hji hjun hjD=>?_) hr hv ?_
  ·have:=hf.2 j hjn
   simp only [hj,Bool.or_eq_true,beq_iff_eq,hji,hjun,List.contains_iff_mem,hjD,false_or,Bool.false_eq_true,Bool.and_eq_true,List.all_eq_true,Bool.not_eq_true'] at this
   refine ⟨this.1,fun k' hk' hm=>?_⟩
   have:=this.2 k' hk'
   rw [List.contains_iff_mem.2 hm] at this
   cases this
  ·refine ih (k+1) _ _ _ (fun j hj=>?_) (by simp only [List.length_cons] at hk;omega) (hset _ _ inv hr hkn) hB.2 hn
   have:=hl (j+1) (by simp;omega)
   simpa [Nat.add_assoc,Nat.add_comm 1 j] using this
theorem StA.start (W:World):StA W st (fun _=>none) (fun _=>(0,undef)) W:=⟨Below.refl _ _,(fun _ _ h=>by cases h),(fun _ _ _ _ _ _ h=>by cases h),(fun _ _ _ h=>by cases h),(fun _ _ h=>by cases h)⟩
theorem Reg.start (a:Act):Reg (fun _=>a) (fun _=>none):=⟨(fun _ _ _=>rfl),(fun _ _ _ h=>by cases h)⟩
def flowB (ops:Array Oper) (foot:Nat→List Nat):Bool:=Region.noSelect ops && flowHead .any ops foot ops.size (fun listed=>(Region.ready .any ops listed).isEmpty) ops.size 0 (Array.replicate ops.size false)
theorem wp_region_flow {id:Nat} {Q:Exit→Act→World→Prop} {a:Act} {w:World} {l:List Oper} (st:Bool) (foot:Nat→List Nat) (hm:P.follows .mixedOrders=true) (hB:flowB l.toArray foot=true)
  (h:wpFlow P l.toArray w.drew st foot (fun a' β=>∀ B w',StA w.drew st β B w'→Q .normal (a' B) w') 0 l (fun _=>a) (fun _=>none)):(Code.region id l.toArray true).wp P Q a w:=by
 simp only [flowB,Bool.and_eq_true] at hB
 refine wp_region_any hm ?_
 have ez:l.toArray.size=l.length:=by simp
 have H:=anyG_lex (md:=.any) (W:=w.drew) (n:=l.toArray.size) (tail:=fun listed=>(Region.ready .any l.toArray listed).isEmpty) (Inv:=fun _=>True) hB.1 (fun _ _ _ _ _=>trivial) (fun i _ listed _ _ j hj=>by
   obtain ⟨_,o,ho,_⟩:=mem_ready.1 hj
   exact (Array.getElem?_eq_some_iff.1 ho).1) (fun listed hL j hj=>by rw [List.isEmpty_iff.1 hL] at hj;cases hj) l 0 (Array.replicate l.toArray.size false) (fun _=>a) (fun _=>none)
  (fun j hj=>by simp) (by simp) trivial (by rw [← ez];exact hB.2) h
 have st0:=StA.start (st:=st) w.drew
 have fin:=wpAny_of_anyG (Q':=Q) (g:=0) (fun listed a' β B w' hw' hL=>⟨List.isEmpty_iff.1 hL.1,hL.2 B w' hw'⟩) _ _ _ _ _ _ st0 (Reg.start a) H
 simpa using fin
variable {foot:Nat→List Nat} {Q:(BN→Act)→Ress→Prop} {k:Nat} {o:Oper} {rest:List Oper} {a:BN→Act} {β:Ress}
theorem flow_nil (h:Q a β):wpFlow P ops W st foot Q k [] a β:=h
theorem flow_skip (hw:∀ B,Region.wanted o (yielded ops (a B).tmps)=false) (h:wpFlow P ops W st foot Q (k+1) rest (fun B=>(a B).put o.dst undef) β):wpFlow P ops W st foot Q k (o :: rest) a β:=
 ⟨fun _=>undef,none,fun _ _ _=>rfl,(fun _ _ h=>by cases h),.inr ⟨hw,rfl,rfl⟩,h⟩
theorem flow_mild (hw:∀ B,Region.wanted o (yielded ops (a B).tmps)=true)
  (h:∀ K:(BN→Act)→Prop,(∀ a,wpFlow P ops W st foot Q (k+1) rest a β→K a)→∃ v:BN→Value,(∀ B w,StF W (foot k) β B w→mildAt P o (a B) w (v B))∧Cont (foot k) v∧(∀ k'∈foot k,β k'≠none)∧K (fun B=>(a B).put o.dst (v B))):wpFlow P ops W st foot Q k (o :: rest) a β:=by
 obtain ⟨v,h1,h2,h3,h4⟩:=h _ (fun _ h=>h)
 exact ⟨v,none,h2,(fun _ _ h=>by cases h),.inl ⟨hw,.inl ⟨rfl,h3,h1⟩⟩,h4⟩
theorem flow_make (hw:∀ B,Region.wanted o (yielded ops (a B).tmps)=true)
  (h:∀ K:(BN→Act)→Ress→Prop,(∀ a β',wpFlow P ops W st foot Q (k+1) rest a β'→K a β')→∃ (z:Array Value) (T:TypeId) (f:Nat→Value),(∀ B w,StF W (foot k) β B w→(execOp (a B).eval o).run P w=.ok (.value (f w.heap.size)) (w.alloc (.cells z T)))∧k∈foot k∧β k=none ∧
    K (fun B=>(a B).put o.dst (f (B k).1)) (β.put k (.cells (fun _=>z) T))):wpFlow P ops W st foot Q k (o :: rest) a β:=by
 obtain ⟨z,T,f,h1,h2,h3,h4⟩:=h _ (fun _ _ h=>h)
 exact ⟨fun B=>f (B k).1,some (k,.cells (fun _=>z) T),(fun B B' hB=>by show f (B k).1=f (B' k).1;rw [hB k h2]),(fun j r hj=>by simp only [Option.some.injEq,Prod.mk.injEq] at hj;exact hj.1 ▸ h2),.inl ⟨hw,.inr (.inl ⟨z,T,f,h2,h3,rfl,rfl,h1⟩)⟩,h4⟩
theorem flow_slice (hw:∀ B,Region.wanted o (yielded ops (a B).tmps)=true)
  (h:∀ K:(BN→Act)→Ress→Prop,(∀ a β',wpFlow P ops W st foot Q (k+1) rest a β'→K a β')→∃ (z:Array Value) (T:TypeId) (n:Nat),(∀ B w,StF W (foot k) β B w→(execOp (a B).eval o).run P w=.ok (.value (.slice (some ⟨w.heap.size,0,none⟩) n n)) (w.alloc (.cells z T)))∧k∈foot k∧β k=none ∧
    K (fun B=>(a B).put o.dst (.slice (some ⟨(B k).1,0,none⟩) n n)) (β.put k (.cells (fun _=>z) T))):wpFlow P ops W st foot Q k (o :: rest) a β:=by
 refine flow_make hw (fun K hK=>?_)
 obtain ⟨z,T,n,h1,h2,h3,h4⟩:=h K hK
 exact ⟨z,T,slcOf n,h1,h2,h3,h4⟩
theorem flow_ptr (hw:∀ B,Region.wanted o (yielded ops (a B).tmps)=true)
  (h:∀ K:(BN→Act)→Ress→Prop,(∀ a β',wpFlow P ops W st foot Q (k+1) rest a β'→K a β')→∃ (z:Array Value) (T:TypeId),(∀ B w,StF W (foot k) β B w→(execOp (a B).eval o).run P w=.ok (.value (.pointer (some ⟨w.heap.size,0,none⟩))) (w.alloc (.cells z T)))∧k∈foot k∧β k=none ∧
    K (fun B=>(a B).put o.dst (.pointer (some ⟨(B k).1,0,none⟩))) (β.put k (.cells (fun _=>z) T))):wpFlow P ops W st foot Q k (o :: rest) a β:=by
 refine flow_make hw (fun K hK=>?_)
 obtain ⟨z,T,h1,h2,h3,h4⟩:=h K hK
 exact ⟨z,T,ptrOf,h1,h2,h3,h4⟩
theorem StF.cells {F:List Nat} {B:BN} {w:World} (h:StF W F β B w) (j:Nat) {z:BN→Array Value} {T:TypeId} (hj:j∈F) (hb:β j=some (.cells z T)) :
  (∀ o,w.cell? ⟨(B j).1,o,none⟩=(z B)[o]?)∧(∀ o,w.frozen? ⟨(B j).1,o,none⟩=false):=block_cells (h.fits j _ hj hb).2
theorem StF.cellsB {F:List Nat} {B:BN} {w:World} (h:StF W F β B w) (j:Nat) {z:BN→Array Value} {T:TypeId} (hj:F.contains j=true) (hb:β j=some (.cells z T)) :
  W.heap.size≤(B j).1∧(∀ o,w.cell? ⟨(B j).1,o,none⟩=(z B)[o]?)∧(∀ o,w.frozen? ⟨(B j).1,o,none⟩=false)∧(∀ o,hcell w (B j).1 o=(z B)[o]?)∧(∀ o,hfroz w (B j).1 o=false):=
 ⟨(h.fits j _ (List.contains_iff_mem.1 hj) hb).1,(h.cells j (List.contains_iff_mem.1 hj) hb).1,(h.cells j (List.contains_iff_mem.1 hj) hb).2,(h.cells j (List.contains_iff_mem.1 hj) hb).1,(h.cells j (List.contains_iff_mem.1 hj) hb).2⟩
theorem StA.cells {B:BN} {w:World} (h:StA W st β B w) (j:Nat) {z:BN→Array Value} {T:TypeId} (hb:β j=some (.cells z T)) :
  W.heap.size≤(B j).1∧(B j).1<w.heap.size∧(∀ o,w.cell? ⟨(B j).1,o,none⟩=(z B)[o]?)∧(∀ o,w.frozen? ⟨(B j).1,o,none⟩=false):=
 ⟨(h.fits j _ hb).1,lt_of_some (h.fits j _ hb).2,block_cells (h.fits j _ hb).2⟩
end
end Go.Proofs.YtnaebigoknfndaaGreatDoor
namespace Go.Proofs.YtnaebigoknfndaaGreatDoor
open Go.RowKit
theorem mkB_app (a b:List Nat):mkB a++mkB b=mkB (a++b):=by
 apply ByteArray.ext
 rw [ByteArray.data_append]
 simp [mkB]
theorem str_add {x y z:ByteArray} (h:x.size+y.size≤1000) (e:x++y=z):Op.stringOp .add x y=pure (.string z):=by
 subst e
 unfold Op.stringOp
 rw [if_neg (by simp only [IntKind.max,IntKind.bits,IntKind.signed];omega)]
theorem plain_ok (s:ByteArray) (i q:Nat) (w:World) (h:IdOK (byts s)) (hi:i<4294967296) (hq:q<4294967296) :
  Calls Tryz.prog 175 #[.agg #[.string s,.int .i64 i,.int .i64 q]] w fun e w'=>e=.returned (.string (mkB (plainL (byts s) i q)))∧Below w.heap.size w w':=by
 obtain ⟨h1,h2,h3⟩:=h
 have e0:mkB (plainL (byts s) i q)=ByteArray.mk #[72]++mkB [s.size]++s++mkB (fourL i)++mkB (fourL q):=by
  unfold plainL
  rw [← mkB_app,← mkB_app,← mkB_app,mkB_byts,byts_len,show [72,s.size] = [72] ++ [s.size] from rfl,← mkB_app]
  rfl
 rw [byts_len] at h1 h2
 have HF:=Lib.hid (fun n w' (hn:n<4294967296)=>four_ok n w' hn)
 have HE:=Lib.hid e0
 have hw8:IntKind.u8.wrap (s.size:Int)=s.size:=IntWalk.u8_in _ (by omega)
 have z0:(mkB [s.size]).size=1:=mkB_size _
 have z1:(mkB (fourL i)).size=4:=mkB_size _
 have z2:(mkB (fourL q)).size=4:=mkB_size _
 obtain ⟨T,hT⟩:∃ T,mkB [s.size]=T:=⟨_,rfl⟩
 obtain ⟨U,hU⟩:∃ T,mkB (fourL i)=T:=⟨_,rfl⟩
 obtain ⟨V,hV⟩:∃ T,mkB (fourL q)=T:=⟨_,rfl⟩
 rw [hT] at e0 z0
 rw [hU] at e0 z1
 rw [hV] at e0 z2
 have hcv:∀ (w':World) (b:Nat),w'.cell? ⟨b,0,none⟩=some (.int .u8 s.size)→Sem.run Tryz.prog (convert 39 9 (.slice (some ⟨b,0,none⟩) 1 1)) w'=.ok (.string T) w':=fun w' b hc=>by
  rw [← hT]
  refine run_text w' (n:=1) (c:=1) (l:=[s.size]) (fun x hx=>by rw [List.mem_singleton.1 hx];omega) rfl (fun j hj=>?_)
  obtain rfl:j=0:=by omega
  exact hc
 have H1:=Lib.hid (fun w'=>hU ▸ four_ok i w' hi)
 have H2:=Lib.hid (fun w'=>hV ▸ four_ok q w' hq)
 obtain ⟨A1,a1⟩:∃ z,ByteArray.mk #[72]++T=z:=⟨_,rfl⟩
 have s1:A1.size=2:=by rw [← a1,ByteArray.size_append,z0];rfl
 obtain ⟨A2,a2⟩:∃ z,A1++s=z:=⟨_,rfl⟩
 have s2:A2.size=2+s.size:=by rw [← a2,ByteArray.size_append,s1]
 obtain ⟨A3,a3⟩:∃ z,A2++U=z:=⟨_,rfl⟩
 have s3:A3.size=2+s.size+4:=by rw [← a3,ByteArray.size_append,s2,z1]
 obtain ⟨A4,a4⟩:∃ z,A3++V=z:=⟨_,rfl⟩
 have p1:=str_add (show (ByteArray.mk #[72]).size+T.size≤1000 by rw [z0];decide) a1
 have p2:=str_add (by omega) a2
 have p3:=str_add (by omega) a3
 have p4:=str_add (by omega) a4
 rw [e0,a1,a2,a3,a4]
 clear hT hU hV e0 a1 a2 a3 a4 s1 s2 s3 z0 z1 z2 HE HF
 have qa:=alloc_cells
 have qf:=alloc_frozens
 clear h3
 go_enter Tryz.func175,Tryz.ntmps175
 go_wp2_with fail
 refine wp_region_flow true (fun k=>([[],[],[],[],[4],[4]]:List (List Nat)).getD k []) (by kernel_rfl) (by kernel_rfl) ?_
 repeat (first | (refine flow_skip (fun _=>rfl) ?_;(try simp only [Act.put,List.setIfInBounds_toArray,List.set_cons_zero,List.set_cons_succ])) | (refine flow_mild (fun _=>rfl) (fun K hK=>?_);apply Exists.intro;refine ⟨fun B w2 h2=>?_,?_,?_,?_⟩;(next=>(have h2':=Below.undrew h2.below;have g1:=Below.cells h2';have g2:=Below.frozens h2';(try simp only [World.size_alloc,World.size_setCell] at g1 g2);(try (obtain ⟨ql4,qc4,qf4,qh4,qz4⟩:=StF.cellsB h2 4 rfl rfl;(try simp only [World.size_alloc,World.size_setCell,World.size_drew] at ql4)));(try (have kq:=hcv _ _ (qc4 0)));clear h2 h2';unfold mildAt;first | (go_simp;simp only [mildUpon,true_and];first | with_reducible exact H1.out _ | with_reducible exact H2.out _) | (simp [mildUpon,go_sem,↓IntWalk.iteOmega, *];done) | (simp [mildUpon,go_sem,↓IntWalk.iteOmega, *];(try go_ints);rfl)));(next=>(first | (exact fun _ _ _=>rfl) | (intro B1 B2 hB;(try dsimp only);simp [hB];done)));(next=>(first | (intro k' hk';cases hk';done) | (intro k' hk';simp at hk';(try subst hk');(try simp [Ress.put]);done) | (intro k' hk';simp at hk';(try rcases hk' with rfl | rfl);all_goals (simp [Ress.put]))));(go_simp;refine hK _ ?_;clear hK K)) | (refine flow_ptr (fun _=>rfl) (fun K hK=>?_);apply Exists.intro;apply Exists.intro;refine ⟨fun B w2 h2=>?_,?_,?_,?_⟩;(next=>(have h2':=Below.undrew h2.below;have g1:=Below.cells h2';have g2:=Below.frozens h2';(try simp only [World.size_alloc,World.size_setCell] at g1 g2);(try (obtain ⟨ql4,qc4,qf4,qh4,qz4⟩:=StF.cellsB h2 4 rfl rfl;(try simp only [World.size_alloc,World.size_setCell,World.size_drew] at ql4)));(try (have kq:=hcv _ _ (qc4 0)));clear h2 h2';simp [go_sem,ptrOf,↓IntWalk.iteOmega, *];first | exact ⟨rfl,rfl⟩ | rfl));(next=>simp);(next=>first | rfl | simp [Ress.put]);((try simp only [Ress.put_def]);go_simp;refine hK _ _ ?_;clear hK K)) | (refine flow_slice (fun _=>rfl) (fun K hK=>?_);apply Exists.intro;apply Exists.intro;apply Exists.intro;refine ⟨fun B w2 h2=>?_,?_,?_,?_⟩;(next=>(have h2':=Below.undrew h2.below;have g1:=Below.cells h2';have g2:=Below.frozens h2';(try simp only [World.size_alloc,World.size_setCell] at g1 g2);(try (obtain ⟨ql4,qc4,qf4,qh4,qz4⟩:=StF.cellsB h2 4 rfl rfl;(try simp only [World.size_alloc,World.size_setCell,World.size_drew] at ql4)));(try (have kq:=hcv _ _ (qc4 0)));clear h2 h2';simp [go_sem,↓IntWalk.iteOmega, *];first | exact ⟨rfl,rfl⟩ | rfl));(next=>simp);(next=>first | rfl | simp [Ress.put]);((try simp only [Ress.put_def]);go_simp;refine hK _ _ ?_;clear hK K)))
 refine flow_nil ?_
 intro B w1 h1
 dsimp only
 have hb1:=Below.undrew h1.below
 obtain ⟨lo1_4,up1_4,e1_4,fz1_4⟩:=StA.cells h1 4 rfl
 try dsimp only at e1_4
 generalize (B 4).1=b1_4 at *
 have eh1_4:=e1_4
 have fh1_4:=fz1_4
 change ∀ o,hcell _ _ o=_ at eh1_4
 change ∀ o,hfroz _ _ o=_ at fh1_4
 clear h1
 clear B
 try simp only [World.size_alloc,World.size_setCell,World.size_drew] at lo1_4
 have z1:=hb1.size
 have c1:=Below.cells hb1
 have f1:=Below.frozens hb1
 try simp only [World.size_alloc,World.size_setCell,World.size_drew] at z1 c1 f1
 go_wp2_with fail
 go_ret
 exact ⟨rfl,(by repeat (first | (with_reducible exact Below.refl _ _) | (with_reducible refine bAl ?_ _) | (with_reducible refine bSc ?_ _) | (with_reducible refine Below.drew ?_) | (with_reducible refine bTm ?_ hb1)))⟩
end Go.Proofs.YtnaebigoknfndaaGreatDoor
namespace Go.Proofs.YtnaebigoknfndaaGreatDoor
open Go.RowKit
theorem encode_ok (s:ByteArray) (i q:Nat) (w:World) (h:BOK (byts s) i q) :
  Calls Tryz.prog 149 #[.agg #[.string s,.int .i64 i,.int .i64 q]] w fun e w'=>e=.returned (.tuple #[.string (mkB (encL (byts s) i q)),.int .i64 0])∧Below w.heap.size w w':=by
 obtain ⟨hid,hi,hq1,hq2⟩:=h
 have HC:=Lib.hid (fun w'=>bcheck_ok s i q w' hid (by omega) (by omega))
 have HP:=Lib.hid (fun w'=>plain_ok s i q w' hid (by omega) (by omega))
 have hpl:=plainL_len (byts s) i q
 have hpb:=plainL_bytes (i:=i) (s:=q) hid
 have hsz:=hid.2.1
 obtain ⟨n,hn⟩:∃ n,crcOf (plainL (byts s) i q)=n:=⟨_,rfl⟩
 have e:mkB (encL (byts s) i q)=mkB (plainL (byts s) i q)++mkB (fourL n):=by unfold encL;rw [hn,mkB_app]
 rw [e]
 clear e
 obtain ⟨L,hL⟩:∃ L,plainL (byts s) i q=L:=⟨_,rfl⟩
 rw [hL] at hpl hpb hn HP ⊢
 have hlt:n<4294967296:=hn ▸ crcOf_lt hpb
 have z1:(mkB L).size=L.length:=mkB_size L
 have z2:(mkB (fourL n)).size=4:=mkB_size _
 have hR:=fun w'=>crc_ok (mkB L) n w' (by rw [mkB_size];omega) (by rw [byts_mkB hpb];exact hn)
 have hF:=fun w'=>four_ok n w' hlt
 obtain ⟨T,hT⟩:∃ T,mkB L=T:=⟨_,rfl⟩
 obtain ⟨U,hU⟩:∃ T,mkB (fourL n)=T:=⟨_,rfl⟩
 rw [hT] at z1 HP hR ⊢
 rw [hU] at z2 hF ⊢
 have HR:=Lib.hid hR
 have HF:=Lib.hid hF
 have z1':T.size≤18:=by omega
 clear hR hF hn hpb hL hT hU hid z1 hpl hsz
 have qa:=alloc_cells
 have qf:=alloc_frozens
 go_enter Tryz.func149,Tryz.ntmps149
 go_wp2_with fail
 refine (HC.out _).mono ?_
 rintro e w1 ⟨rfl,hb1⟩
 have z1:=hb1.size
 have c1:=Below.cells hb1
 have f1:=Below.frozens hb1
 try simp only [World.size_alloc,World.size_setCell,World.size_drew] at z1 c1 f1
 go_wp2_with fail
 refine (HP.out _).mono ?_
 rintro e w2 ⟨rfl,hb2⟩
 have z2:=hb2.size
 have c2:=Below.cells hb2
 have f2:=Below.frozens hb2
 try simp only [World.size_alloc,World.size_setCell,World.size_drew] at z2 c2 f2
 go_wp2_with fail
 refine (HR.out _).mono ?_
 rintro e w3 ⟨rfl,hb3⟩
 have z3:=hb3.size
 have c3:=Below.cells hb3
 have f3:=Below.frozens hb3
 try simp only [World.size_alloc,World.size_setCell,World.size_drew] at z3 c3 f3
 go_wp2_with fail
 refine (HF.out _).mono ?_
 rintro e w4 ⟨rfl,hb4⟩
 have z4:=hb4.size
 have c4:=Below.cells hb4
 have f4:=Below.frozens hb4
 try simp only [World.size_alloc,World.size_setCell,World.size_drew] at z4 c4 f4
 go_wp2_with fail
 go_ret2
 exact ⟨rfl,(by repeat (first | (with_reducible exact Below.refl _ _) | (with_reducible refine bAl ?_ _) | (with_reducible refine bSc ?_ _) | (with_reducible refine Below.drew ?_) | (with_reducible refine bTm ?_ hb4) | (with_reducible refine bTm ?_ hb3) | (with_reducible refine bTm ?_ hb2) | (with_reducible refine bTm ?_ hb1)))⟩
end Go.Proofs.YtnaebigoknfndaaGreatDoor

/- What the desk's two laws lean on: part 06 (contracts and plain laws; their conditions stand in each). -/
import Derived.Test.YtnaebigoknfndaaGreatDoorE01
import Derived.Deep.Matrix
import Derived.Test.YtnaebigoknfndaaGreatDoorProg
import Derived.WalkKit
import Derived.Deep.LoopGhost
import Derived.Test.YtnaebigoknfndaaGreatDoorE04
import Derived.Test.YtnaebigoknfndaaGreatDoorE02
import Derived.Lib.Hide
set_option linter.unusedVariables false
set_option linter.unusedSimpArgs false
set_option maxRecDepth 100000
set_option maxHeartbeats 20000000
namespace Go.Proofs.YtnaebigoknfndaaGreatDoor
open Go Go.RowKit Go.Deep
end Go.Proofs.YtnaebigoknfndaaGreatDoor

namespace Go.Proofs.YtnaebigoknfndaaGreatDoor
def dgl (n:Nat):List Nat:=if h:n<10 then [48+n] else (48+n % 10) :: dgl (n / 10)
termination_by n
decreasing_by omega
theorem dgl_lt {n:Nat} (h:n<10):dgl n = [48+n]:=by rw [dgl,dif_pos h]
theorem dgl_ge {n:Nat} (h:¬ n<10):dgl n=(48+n % 10) :: dgl (n / 10):=by rw [dgl,dif_neg h]
def txt (n:Nat):List Nat:=(dgl n).reverse
theorem txt_lt {n:Nat} (h:n<10):txt n = [48+n]:=by rw [txt,dgl_lt h];rfl
theorem txt_ge {n:Nat} (h:¬ n<10):txt n=txt (n / 10) ++ [48+n % 10]:=by rw [txt,dgl_ge h];simp [txt]
def pv (l:List Nat):Nat:=l.foldl (fun a b=>a * 10+(b - 48)) 0
theorem pv_snoc (l:List Nat) (b:Nat):pv (l ++ [b])=pv l * 10+(b - 48):=by simp [pv]
theorem pv_txt:∀ n,pv (txt n)=n:=by
 intro n
 induction n using Nat.strongRecOn with
 | _ n ih=>
  by_cases h:n<10
  ·rw [txt_lt h];simp [pv]
  ·rw [txt_ge h,pv_snoc,ih (n / 10) (by omega)];omega
def Dig (l:List Nat):Prop:=∀ b∈l,48≤b∧b≤57
def Num (l:List Nat):Prop:=Dig l∧l ≠ []∧(1<l.length→l.getD 0 0≠48)
theorem txt_ne (n:Nat):txt n ≠ []:=by
 by_cases h:n<10
 ·rw [txt_lt h];simp
 ·rw [txt_ge h];simp
theorem txt_dig:∀ n,Dig (txt n):=by
 intro n
 induction n using Nat.strongRecOn with
 | _ n ih=>
  by_cases h:n<10
  ·rw [txt_lt h];intro b hb;simp at hb;omega
  ·rw [txt_ge h]
   intro b hb
   rcases List.mem_append.1 hb with hb | hb
   ·exact ih (n / 10) (by omega) b hb
   ·simp at hb;omega
theorem txt_bd:∀ n,n<10 ^ (txt n).length∧(0<n→10 ^ ((txt n).length - 1)≤n):=by
 intro n
 induction n using Nat.strongRecOn with
 | _ n ih=>
  by_cases h:n<10
  ·rw [txt_lt h];simp;exact ⟨h,fun h=>h⟩
  ·have h1:=ih (n / 10) (by omega)
   have h2:=List.length_pos_iff.2 (txt_ne (n / 10))
   rw [txt_ge h,List.length_append,List.length_singleton]
   obtain ⟨k,hk⟩:∃ k,(txt (n / 10)).length=k+1:=⟨_,(Nat.sub_add_cancel h2).symm⟩
   rw [hk] at h1 ⊢
   simp only [Nat.add_sub_cancel] at h1 ⊢
   have e1:10 ^ (k+1+1)=10 ^ (k+1) * 10:=Nat.pow_succ ..
   have e2:10 ^ (k+1)=10 ^ k * 10:=Nat.pow_succ ..
   refine ⟨by omega,fun _=>?_⟩
   have:=h1.2 (by omega)
   omega
theorem txt_len_le {n k:Nat} (h:n<10 ^ k) (hk:0<k):(txt n).length≤k:=by
 rcases Nat.eq_zero_or_pos n with h0 | h0
 ·subst h0;rw [txt_lt (by omega)];exact hk
 ·have:=(txt_bd n).2 h0
  rcases Nat.lt_or_ge k (txt n).length with c | c
  ·have:=Nat.pow_le_pow_right (show 0<10 by omega) (show k≤(txt n).length - 1 by omega)
   omega
  ·exact c
theorem dgl_len (n:Nat):(dgl n).length=(txt n).length:=by simp [txt]
theorem txt_len39 {n:Nat} (h:n<340282366920938463463374607431768211456):(txt n).length≤39:=txt_len_le (Nat.lt_trans h (by decide)) (by omega)
theorem pvFrom:∀ (l:List Nat) (c:Nat),l.foldl (fun a b=>a * 10+(b - 48)) c=c * 10 ^ l.length+pv l:=by
 intro l
 induction l with
 | nil=>intro c;simp [pv]
 | cons x l ih=>
  intro c
  have e:10 ^ (l.length+1)=10 ^ l.length * 10:=Nat.pow_succ ..
  simp only [List.foldl_cons,List.length_cons,pv,Nat.zero_mul,Nat.zero_add]
  rw [ih,ih,e,Nat.add_mul]
  simp only [pv]
  rw [Nat.mul_assoc c 10,Nat.mul_comm 10 (10 ^ l.length)]
  omega
end Go.Proofs.YtnaebigoknfndaaGreatDoor
namespace Go.Proofs.YtnaebigoknfndaaGreatDoor
open Go Go.RowKit
def rvk (l:List Nat) (n i k:Nat):Nat:=if k<i∨n - i≤k then l.getD (n - 1 - k) 0 else l.getD k 0
theorem rvk_step {l:List Nat} {n i:Nat} {cur:Array Value} (hi:i<n - 1 - i) (hs:n≤cur.size) (h:∀ k,k<n→cur[k]? = some (bv (rvk l n i k))) :
  ∀ k,k<n→((cur.setIfInBounds i (bv (rvk l n i (n - 1 - i)))).setIfInBounds (n - 1 - i) (bv (rvk l n i i)))[k]? = some (bv (rvk l n (i+1) k)):=by
 intro k hk
 rw [Array.getElem?_setIfInBounds,Array.size_setIfInBounds]
 by_cases c1:n - 1 - i=k
 ·rw [if_pos c1,if_pos (by omega)]
  subst c1
  congr 2
  unfold rvk
  rw [if_neg (by omega),if_pos (by omega)]
  congr 1;omega
 ·rw [if_neg c1,Array.getElem?_setIfInBounds]
  by_cases c2:i=k
  ·rw [if_pos c2,if_pos (by omega)]
   subst c2
   congr 2
   unfold rvk
   rw [if_neg (by omega),if_pos (by omega)]
  ·rw [if_neg c2,h k hk]
   congr 2
   unfold rvk
   by_cases d:k<i∨n - i≤k
   ·rw [if_pos d,if_pos (by omega)]
   ·rw [if_neg d,if_neg (by omega)]
theorem rvk_end {l:List Nat} {n i:Nat} {cur:Array Value} (hl:l.length=n) (hi:¬ (i:Int)<n - 1 - i) (hi2:2 * i≤n) (h:∀ k,k<n→cur[k]? = some (bv (rvk l n i k))):cur.toList.take (n * 1)=l.reverse.map bv:=by
 apply List.ext_getElem?
 intro k
 rw [List.getElem?_take]
 by_cases c:k<n
 ·rw [if_pos (by omega)]
  have:=h k c
  rw [Array.getElem?_toList,this,List.getElem?_map,List.getElem?_reverse (by omega)]
  have e:rvk l n i k=l.getD (n - 1 - k) 0:=by
   unfold rvk
   by_cases d:k<i∨n - i≤k
   ·rw [if_pos d]
   ·rw [if_neg d];congr 1;omega
  rw [e,hl,List.getElem?_eq_getElem (by omega)]
  simp [List.getD,show n - 1 - k<l.length by omega]
 ·rw [if_neg (by omega),List.getElem?_map,List.getElem?_eq_none (by simp;omega)];rfl
theorem set_blk2 {w:World} {b:Nat} {cs:Array Value} {T:TypeId} {fz:Nat×Nat} (h:w.heap[b]? = some (.cells cs T fz)) (o:Nat) (v:Value):(w.setCell ⟨b,o,none⟩ v).heap[b]? = some (.cells (cs.setIfInBounds o v) T fz):=by
 simp [World.setCell,Array.getElem?_modify,h]
theorem reverse_ok (A:Option Addr) (n c base:Nat) (l:List Nat) (w:World) (own:w.ownsRow base 5 1 (.slice A n c) n (l.map bv)) (hn:n≤1000000) :
  Calls Tryz.prog 106 #[.slice A n c] w fun e w'=>e=.returned (.tuple #[])∧w'.ownsRow base 5 1 (.slice A n c) n (l.reverse.map bv)∧Below base w w':=by
 have hl:l.length=n:=by have:=own.1;simpa using this
 rcases own.2 with ⟨h,h0⟩ | ⟨g,c',cur,h,hbg,hg,hnc,hcm,hcs,htk⟩
 ·have own':=own
  injection h with hA hn' hc'
  subst hA
  subst hn'
  obtain rfl:l = []:=List.eq_nil_of_length_eq_zero hl
  have HO:=Lib.hid own
  clear own own' h0
  go_enter Tryz.func106,Tryz.ntmps106
  go_wp2_with fail
  go_loopg [2,3] 0 (fun _ s2 s3 wr=>s2=.int .i64 0∧s3=.int .i64 (-1)∧wr=w)
  case atStart=>exact ⟨rfl,rfl,rfl⟩
  case round=>
   obtain ⟨rfl,rfl,rfl⟩:=hrel
   go_wp2_with fail
   go_end0
   exact ⟨rfl,HO.out,Below.refl _ _⟩
 ·injection h with hA _ hc
  subst hA hc
  have hcur:∀ k,k<n→cur[k]? = some (bv (rvk l n 0 k)):=fun k hk=>by
   have h1:(cur.toList.take (n * 1))[k]? = some (bv (l.getD k 0)):=by
    rw [htk]
    simp [List.getD,List.getElem?_eq_getElem (show k<l.length by omega)]
   rw [List.getElem?_take] at h1
   rw [if_pos (by omega)] at h1
   have:rvk l n 0 k=l.getD k 0:=by unfold rvk;rw [if_neg (by omega)]
   rw [this]
   simpa using h1
  have HC:=Lib.hid hcur
  have HG:=Lib.hid hg
  have HL:=Lib.hid hl
  have HX:=Lib.hid (⟨hbg,hnc,hcm,hcs⟩:base≤g∧n≤c∧c≤maxLen∧cur.size=c * 1)
  clear hcur hg htk own hl hcs hcm
  go_enter Tryz.func106,Tryz.ntmps106
  go_wp2_with fail
  go_loopg [2,3] n (fun m s2 s3 wr=>∃ (i:Nat) (jz:Int) (cu:Array Value),s2=.int .i64 i∧s3=.int .i64 jz∧jz=(n:Int) - 1 - i∧2 * i≤n∧n - i≤m∧wr.heap[g]? = some (.cells cu 5 (0,0))∧cu.size=c * 1∧(∀ k,k<n→cu[k]? = some (bv (rvk l n i k)))∧Below base w wr)
  case atStart=>exact ⟨0,(n:Int) - 1,cur,rfl,rfl,by omega,by omega,by omega,HG.out,HX.out.2.2.2,HC.out,Below.refl _ _⟩
  case round=>
   obtain ⟨i,jz,cu,rfl,rfl,hj,hi2,hm,hgg,hcs,hcu,bel⟩:=hrel
   by_cases hlt:(i:Int)<jz
   ·obtain ⟨J,hJ⟩:∃ J:Nat,n - 1 - i=J:=⟨_,rfl⟩
    have hjJ:jz=(J:Int):=by omega
    have hij:i<n - 1 - i:=by omega
    have hJn:J<n:=by omega
    have hin:i<n:=by omega
    have hst:=rvk_step hij (by rw [hcs];omega) hcu
    rw [hJ] at hst
    subst hjJ
    obtain ⟨X,hX⟩:∃ X,rvk l n i J=X:=⟨_,rfl⟩
    obtain ⟨Y,hY⟩:∃ X,rvk l n i i=X:=⟨_,rfl⟩
    obtain ⟨d1,e1⟩:=block_cells hgg
    have ci:wr.cell? ⟨g,i,none⟩=some (.int .u8 (Y:Int)):=by rw [d1,hcu i hin,hY]
    have cj:wr.cell? ⟨g,J,none⟩=some (.int .u8 (X:Int)):=by rw [d1,hcu J hJn,hX]
    have fi:=e1 i
    have fj:=e1 J
    rw [hX,hY] at hst
    have nij:¬ i=J:=by omega
    have nji:¬ J=i:=by omega
    have HSt:=Lib.hid hst
    have HGG:=Lib.hid hgg
    have HCS:=Lib.hid hcs
    have HB:=Lib.hid bel
    have HJ:=Lib.hid hj
    have HHJ:=Lib.hid hJ
    have G1:=Lib.hid (set_blk2 (set_blk2 (w:=wr.drew) HGG.out i (.int .u8 (X:Int))) J (.int .u8 (Y:Int)))
    have g2:=set_blk2 (set_blk2 (w:=wr.drew) HGG.out J (.int .u8 (Y:Int))) i (.int .u8 (X:Int))
    rw [Array.setIfInBounds_comm _ _ (show J≠i by omega)] at g2
    have G2:=Lib.hid g2
    have B1:=Lib.hid (((bel.drew).setCell (p:=⟨g,i,none⟩) HX.out.1 (.int .u8 (X:Int))).setCell (p:=⟨g,J,none⟩) HX.out.1 (.int .u8 (Y:Int)))
    have B2:=Lib.hid (((bel.drew).setCell (p:=⟨g,J,none⟩) HX.out.1 (.int .u8 (Y:Int))).setCell (p:=⟨g,i,none⟩) HX.out.1 (.int .u8 (X:Int)))
    clear g2
    have i0:(0:Int)≤i:=by omega
    have i1:(i:Int)<n:=by omega
    have j0:(0:Int)≤J:=by omega
    have j1:(J:Int)<n:=by omega
    clear hst hgg hcs hcu bel d1 e1 hj hJ
    go_wp2_with fail
    go_region
    all_goals
     go_wp2_with fail
     go_roundg (n - (i+1))
    all_goals first
     | (case measure=>omega)
     | (case rel=>exact ⟨i+1,(J:Int) - 1,_,by go_num,by go_num,by have:=HJ.out;omega,by omega,Nat.le_refl _,G1.out,by rw [Array.size_setIfInBounds,Array.size_setIfInBounds];exact HCS.out,HSt.out,B1.out⟩)
     | (case rel=>exact ⟨i+1,(J:Int) - 1,_,by go_num,by go_num,by have:=HJ.out;omega,by omega,Nat.le_refl _,G2.out,by rw [Array.size_setIfInBounds,Array.size_setIfInBounds];exact HCS.out,HSt.out,B2.out⟩)
   ·have HE:=Lib.hid (rvk_end HL.out (by omega) hi2 hcu)
    have HGG:=Lib.hid hgg
    clear hcu hgg
    go_wp2_with fail
    go_end0
    exact ⟨rfl,⟨by simp [HL.out],.inr ⟨g,c,cu,rfl,HX.out.1,HGG.out,HX.out.2.1,HX.out.2.2.1,hcs,by rw [HE.out];simp⟩⟩,bel⟩
end Go.Proofs.YtnaebigoknfndaaGreatDoor
namespace Go.Proofs.YtnaebigoknfndaaGreatDoor
open Go.RowKit
theorem mean_ok (n s q m:Int) (h:SumsOK n s q) (h0:0<n) (hm:s / n=m) (w:World) :
  Calls Tryz.prog 60 #[.agg #[.int .i64 n,.int .i64 s,.int .i64 q]] w fun e w'=>e=.returned (.tuple #[.int .i64 m,.int .i64 0])∧Below w.heap.size w w':=by
 obtain ⟨b1,b2,b3,b4,b5,b6,b7,b8,b9,b10⟩:=h.bd
 have hne:(n==0)=false:=by simp;omega
 have h1:0≤s / n:=Int.ediv_nonneg b3 (by omega)
 have h2:s / n≤s:=Int.ediv_le_self _ b3
 have HC:=Lib.hid h
 have HM:=Lib.hid hm
 clear h hm
 have qa:=alloc_cells
 have qf:=alloc_frozens
 go_enter Tryz.func60,Tryz.ntmps60
 go_wp2_with fail
 refine (scheck_ok _ _ _ HC.out _).mono ?_
 rintro e w1 ⟨rfl,hb1⟩
 have z1:=hb1.size
 have c1:=Below.cells hb1
 have f1:=Below.frozens hb1
 try simp only [World.size_alloc,World.size_setCell,World.size_drew] at z1 c1 f1
 go_wp2_with fail
 rw [HM.out]
 go_ret2
 exact ⟨rfl,(by repeat (first | (with_reducible exact Below.refl _ _) | (with_reducible refine bAl ?_ _) | (with_reducible refine bSc ?_ _) | (with_reducible refine Below.drew ?_) | (with_reducible refine bTm ?_ hb1)))⟩
end Go.Proofs.YtnaebigoknfndaaGreatDoor
namespace Go.Proofs.YtnaebigoknfndaaGreatDoor
open Go.RowKit
end Go.Proofs.YtnaebigoknfndaaGreatDoor
namespace Go.Proofs.YtnaebigoknfndaaGreatDoor
open Go.RowKit
end Go.Proofs.YtnaebigoknfndaaGreatDoor
namespace Go.Proofs.YtnaebigoknfndaaGreatDoor
open Go.RowKit
def fnext (mean n s:Int):Int:=mean+(256 * n - mean) / 2 ^ s.toNat
theorem pow_cases {s:Int} (h:0≤s) (h1:s≤8):∃ k:Nat,s.toNat=k∧k≤8:=⟨s.toNat,rfl,by omega⟩
theorem fnext_bd {m n s:Int} (h0:0≤s) (h1:s≤8) (a:0≤m) (b:m≤4294967296) (c:0≤n) (d:n≤16777216):0≤fnext m n s∧fnext m n s≤4294967296:=by
 unfold fnext
 obtain ⟨k,hk,hk8⟩:=pow_cases h0 h1
 rw [hk]
 have:k=0∨k=1∨k=2∨k=3∨k=4∨k=5∨k=6∨k=7∨k=8:=by omega
 rcases this with rfl | rfl | rfl | rfl | rfl | rfl | rfl | rfl | rfl <;> simp only [Int.reducePow] <;> omega
theorem fcheck_ok (m:Int) (a:0≤m) (b:m≤4294967296) (w:World) :
  Calls Tryz.prog 145 #[.int .i64 m] w fun e w'=>e=.returned (.int .i64 0)∧w=w':=by
 go_enter Tryz.func145,Tryz.ntmps145
 go_wp2
 go_ret
 exact ⟨rfl,rfl⟩
theorem next_ok (m n s x:Int) (a:0≤m) (b:m≤4294967296) (c:0≤n) (d:n≤16777216) (e:0≤s) (f:s≤8) (hx:fnext m n s=x) (w:World) :
  Calls Tryz.prog 114 #[.int .i64 m,.int .i64 n,.int .i64 s] w fun e w'=>e=.returned (.tuple #[.int .i64 x,.int .i64 0])∧w=w':=by
 have bd:=fnext_bd e f a b c d
 unfold fnext at bd hx
 have Hx:=Lib.hid hx
 clear hx
 go_enter Tryz.func114,Tryz.ntmps114
 go_wp2_with (first | (go_at_call 145;refine (fcheck_ok _ (by omega) (by omega) _).mono ?_;rintro e w' ⟨rfl,rfl⟩) | (go_at_call 141;refine (val_ok _ (by omega) (by omega) _).mono ?_;rintro e w' ⟨rfl,rfl⟩))
 go_ret2
 exact ⟨by rw [Hx.out];rfl,rfl⟩
end Go.Proofs.YtnaebigoknfndaaGreatDoor
namespace Go.Proofs.YtnaebigoknfndaaGreatDoor
open Go.RowKit
def frun (s:Int) (l:List Int):Int:=l.tail.foldl (fun m x=>fnext m x s) (256 * l.headD 0)
theorem frun_one (s:Int) {l:List Int} (h:0<l.length):frun s (l.take 1)=256 * l.getD 0 0:=by
 rw [take_snoc l h];simp [frun]
theorem frun_append (s x:Int) {l:List Int} (h:0<l.length):frun s (l ++ [x])=fnext (frun s l) x s:=by
 match l,h with
 | y :: l,_=>simp [frun]
theorem frun_snoc (s:Int) {l:List Int} {k:Nat} (h:k+1<l.length):frun s (l.take (k+2))=fnext (frun s (l.take (k+1))) (l.getD (k+1) 0) s:=by
 rw [take_snoc l h,frun_append _ _ (by simp;omega)]
theorem fnext_btw {m n s lo hi:Int} (h0:0≤s) (h1:s≤8) (a:lo≤m∧m≤hi) (b:lo≤256 * n∧256 * n≤hi):lo≤fnext m n s∧fnext m n s≤hi:=by
 unfold fnext
 obtain ⟨k,hk,hk8⟩:=pow_cases h0 h1
 rw [hk]
 have:k=0∨k=1∨k=2∨k=3∨k=4∨k=5∨k=6∨k=7∨k=8:=by omega
 rcases this with rfl | rfl | rfl | rfl | rfl | rfl | rfl | rfl | rfl <;> simp only [Int.reducePow] <;> omega
theorem foldl_btw {s lo hi:Int} (h0:0≤s) (h1:s≤8) {l:List Int} (h:∀ x∈l,lo≤256 * x∧256 * x≤hi):∀ m,lo≤m∧m≤hi→lo≤l.foldl (fun m x=>fnext m x s) m∧l.foldl (fun m x=>fnext m x s) m≤hi:=by
 induction l with
 | nil=>intro m hm;simpa using hm
 | cons x l ih=>
  intro m hm
  simp only [List.foldl_cons]
  exact ih (fun y hy=>h y (List.mem_cons_of_mem _ hy)) _ (fnext_btw h0 h1 hm (h x List.mem_cons_self))
theorem frun_btw {s lo hi:Int} (h0:0≤s) (h1:s≤8) {l:List Int} (hl:0<l.length) (h:Btw lo hi l):256 * lo≤frun s l∧frun s l≤256 * hi:=by
 match l,hl with
 | x :: l,_=>
  have a:=h.head
  refine foldl_btw h0 h1 (l:=l) (fun y hy=>?_) _ ?_
  ·have:=h y (List.mem_cons_of_mem _ hy);omega
  ·simp;omega
theorem frun_bd {s:Int} (h0:0≤s) (h1:s≤8) {l:List Int} (hl:0<l.length) (h:Btw 0 16777216 l):0≤frun s l∧frun s l≤4294967296:=by
 have:=frun_btw h0 h1 hl h;omega
theorem run_ok (A:Option Addr) (n c:Nat) (l:List Int) (s m:Int) (w:World) (hr:Row w A n l) (hp:0<n) (hcap:n≤c) (hmx:c≤maxLen) (hm:n≤64) (hb:Btw 0 16777216 l) (s0:0≤s) (s1:s≤8) (hf:frun s l=m) :
  Calls Tryz.prog 69 #[.slice A n c,.int .i64 s] w fun e w'=>e=.returned (.tuple #[.int .i64 m,.int .i64 0])∧w=w':=by
 unfold maxLen at hmx
 have HL:=Lib.hid hr.len
 have HF:=Lib.hid hf
 have HV:=Lib.hid hb
 have C:=Lib.hid (list_ok A n c l w hr hm hb)
 obtain ⟨b,off,rfl,lt,hc⟩:=hr.at hp
 have hx0:=hb.get (k:=0) (by have:=HL.out;omega)
 have hcell0:w.cell? ⟨b,off,none⟩=some (.int .i64 (l.getD 0 0)):=hc 0 hp
 obtain ⟨x0,hv0,hx1⟩:=name_num hcell0
 rw [← hv0] at hx0
 have HC:=Lib.hid hc
 have HX0:=Lib.hid hv0
 have hne:((n:Int)==0)=false:=by simp;omega
 clear hr hf hb hc hcell0 hv0
 have hcs:(c=1∧n=1)∨(¬ c=1∧n=1)∨(¬ c=1∧2≤n):=by omega
 have start:frun s (l.take 1)=256 * x0:=by rw [frun_one s (by have:=HL.out;omega),HX0.out]
 have HS:=Lib.hid start
 clear start
 rcases hcs with ⟨rfl,rfl⟩ | ⟨h1,rfl⟩ | ⟨h1,h2⟩
 rotate_left 2
 ·go_enter Tryz.func69,Tryz.ntmps69
  go_wp2_with fail
  refine (C.out).mono ?_
  rintro e w' ⟨rfl,rfl⟩
  go_wp2_with fail
  go_loop [7,31] (fun v i=>∃ (k:Nat) (D:Int),k+1≤n∧i=.int .i64 k∧v=.int .i64 D∧frun s (l.take (k+1))=D) (fun _ i=>n - (intOf i).toNat)
  case atStart=>exact ⟨0,_,by omega,rfl,rfl,HS.out⟩
  case round=>
   obtain ⟨k,D,hk,rfl,rfl,hD⟩:=hrel
   have d1:=frun_bd s0 s1 (l:=l.take (k+1)) (by have:=HL.out;simp;omega) (HV.out.take _)
   rw [hD] at d1
   by_cases hlt:k+1<n
   ·have d2:=frun_snoc s (l:=l) (k:=k) (by have:=HL.out;omega)
    have hx2:=HV.out.get (k:=k+1) (by have:=HL.out;omega)
    have hcl:=HC.out (k+1) hlt
    rw [show off+(k+1)=off+1+k by omega] at hcl
    obtain ⟨x,hvx,hxx⟩:=name_num hcl
    rw [← hvx] at hx2 d2
    rw [hD] at d2
    obtain ⟨E,e_E⟩:∃ z_,fnext D x s=z_:=⟨_,rfl⟩
    rw [e_E] at d2
    have HE:=Lib.hid e_E
    clear e_E
    have D2:=Lib.hid d2
    clear d2 hD hvx hcl
    have hlt':k<n - 1:=by omega
    have hlt2:(k:Int)<(n:Int) - 1:=by omega
    go_wp2_with fail
    refine (next_ok D x s E (by omega) (by omega) (by omega) (by omega) (by omega) (by omega) HE.out _).mono ?_
    rintro e w' ⟨rfl,rfl⟩
    go_wp2_with fail
    go_round
    case rel=>exact ⟨k+1,E,by omega,by go_num,rfl,D2.out⟩
    case measure=>simp [intOf];omega
   ·have e:k+1=n:=by omega
    rw [e,List.take_of_length_le (by have:=HL.out;omega),HF.out] at hD
    subst hD
    have hlt':¬ k<n - 1:=by omega
    have hlt2:¬ (k:Int)<(n:Int) - 1:=by omega
    clear d1 e
    go_wp2_with fail
    go_ret2
    exact ⟨rfl,rfl⟩
 all_goals
  have e:m=256 * x0:=by rw [← HF.out,← HS.out,List.take_of_length_le (by have:=HL.out;omega)]
  subst e
  go_enter Tryz.func69,Tryz.ntmps69
  go_wp2_with fail
  refine (C.out).mono ?_
  rintro e w' ⟨rfl,rfl⟩
  go_wp2_with fail
  refine wp_loop_rounds 1 ?_
  rw [rounds_succ]
  go_wp2_with fail
  go_ret2
  exact ⟨rfl,rfl⟩
end Go.Proofs.YtnaebigoknfndaaGreatDoor
namespace Go.Proofs.YtnaebigoknfndaaGreatDoor
end Go.Proofs.YtnaebigoknfndaaGreatDoor

/- What the desk's two laws lean on: part 02 (contracts and plain laws; their conditions stand in each). -/
import Derived.Test.YtnaebigoknfndaaGreatDoorE01
import Derived.Laws.AppendOwnNone
import Derived.WalkSpells
import Derived.Lib.SliceRun
import Derived.Deep.RegionHeld3
import Derived.Deep.AppendLies
set_option linter.unusedVariables false
set_option linter.unusedSimpArgs false
set_option maxRecDepth 100000
set_option maxHeartbeats 20000000
namespace Go.Proofs.YtnaebigoknfndaaGreatDoor
open Go.RowKit
theorem val_ok (n:Int) (a:0≤n) (b:n≤16777216) (w:World) :
  Calls Tryz.prog 141 #[.int .i64 n] w fun e w'=>e=.returned (.bool true)∧w=w':=by
 go_enter Tryz.func141,Tryz.ntmps141
 go_wp2
 go_ret
 exact ⟨rfl,rfl⟩
theorem val_no (n:Int) (h:n<0∨16777216<n) (w:World) :
  Calls Tryz.prog 141 #[.int .i64 n] w fun e w'=>e=.returned (.bool false)∧w=w':=by
 rcases h with h | h
 ·have h':decide (0≤n)=false:=by simp;omega
  go_enter Tryz.func141,Tryz.ntmps141
  go_wp2
  go_ret
  exact ⟨rfl,rfl⟩
 ·have h':decide (n≤16777216)=false:=by simp;omega
  have h0:0≤n:=by omega
  go_enter Tryz.func141,Tryz.ntmps141
  go_wp2
  go_ret
  exact ⟨rfl,rfl⟩
theorem pred_ok (n:Int) (a:0≤n) (b:n≤16777216) (w:World) :
  Calls Tryz.prog 140 #[.int .i64 n] w fun e w'=>e=.returned (.bool false)∧w=w':=by
 go_enter Tryz.func140,Tryz.ntmps140
 go_wp2_with fail
 refine (val_ok n a b _).mono ?_
 rintro e w' ⟨rfl,rfl⟩
 go_wp2_with fail
 go_ret
 exact ⟨rfl,rfl⟩
theorem pred_no (n:Int) (h:n<0∨16777216<n) (w:World) :
  Calls Tryz.prog 140 #[.int .i64 n] w fun e w'=>e=.returned (.bool true)∧w=w':=by
 have H:=Lib.hid h
 clear h
 go_enter Tryz.func140,Tryz.ntmps140
 go_wp2_with fail
 refine (val_no n H.out _).mono ?_
 rintro e w' ⟨rfl,rfl⟩
 go_wp2_with fail
 go_ret
 exact ⟨rfl,rfl⟩
theorem index_none (A:Option Addr) (n c:Nat) (l:List Int) (w:World) (h:Row w A n l) (hm:n≤9223372036854775807) (hb:Btw 0 16777216 l) :
  Calls Tryz.prog 165 #[.slice A n c,.func (.func 140) #[] #[]] w fun e w'=>e=.returned (.int .i64 (-1))∧w=w':=by
 have HB:=Lib.hid h.each
 have HL:=Lib.hid h.len
 have HV:=Lib.hid hb
 clear h hb
 go_enter Tryz.func165,Tryz.ntmps165
 go_wp2_with fail
 go_loop [8] (fun i=>∃ k:Nat,k≤n∧i=.int .i64 k) (fun i=>n - (intOf i).toNat)
 case atStart=>exact ⟨0,Nat.zero_le _,rfl⟩
 case round=>
  obtain ⟨k,hk,rfl⟩:=hrel
  by_cases hlt:k<n
  ·obtain ⟨bkx,offx,hAx,ltx,hrx⟩:=HB.out k hlt
   subst hAx
   obtain ⟨x,hvx,hxx⟩:=name_num hrx
   have HX:=Lib.hid hvx
   clear hvx hrx
   have hv:=HV.out.get (k:=k) (by have:=HL.out;omega)
   rw [← HX.out] at hv
   go_wp2_with fail
   refine (pred_ok x hv.1 hv.2 _).mono ?_
   rintro e w' ⟨rfl,rfl⟩
   go_wp2_with fail
   go_round
   case rel=>exact ⟨k+1,by omega,by go_num⟩
   case measure=>simp [intOf];omega
  ·obtain rfl:k=n:=by omega
   go_wp2_with fail
   go_ret
   exact ⟨rfl,rfl⟩
def AnIdx (w:World) (e:Ending) (w':World):Prop:=∃ k:Nat,k≤9223372036854775807∧e=.returned (.int .i64 k)∧w=w'
theorem index_some (A:Option Addr) (n c:Nat) (l:List Int) (w:World) (h:Row w A n l) (hm:n≤9223372036854775807) (hb:¬ Btw 0 16777216 l) :
  Calls Tryz.prog 165 #[.slice A n c,.func (.func 140) #[] #[]] w (AnIdx w):=by
 have HB:=Lib.hid h.each
 have HL:=Lib.hid h.len
 have HV:=Lib.hid hb
 clear h hb
 go_enter Tryz.func165,Tryz.ntmps165
 go_wp2_with fail
 go_loop [8] (fun i=>∃ k:Nat,k≤n∧i=.int .i64 k∧Btw 0 16777216 (l.take k)) (fun i=>n - (intOf i).toNat)
 case atStart=>exact ⟨0,Nat.zero_le _,rfl,Btw.nil _ _⟩
 case round=>
  obtain ⟨k,hk,rfl,hpre⟩:=hrel
  by_cases hlt:k<n
  ·obtain ⟨bkx,offx,hAx,ltx,hrx⟩:=HB.out k hlt
   subst hAx
   obtain ⟨x,hvx,hxx⟩:=name_num hrx
   have HX:=Lib.hid hvx
   clear hvx hrx
   by_cases hv:0≤x∧x≤16777216
   ·have hpre':Btw 0 16777216 (l.take (k+1)):=by
     rw [take_snoc l (by have:=HL.out;omega),← HX.out];exact hpre.append (Btw.one hv.1 hv.2)
    have HP:=Lib.hid hpre'
    obtain ⟨v0,v1⟩:=hv
    clear hpre hpre'
    go_wp2_with fail
    refine (pred_ok x v0 v1 _).mono ?_
    rintro e w' ⟨rfl,rfl⟩
    go_wp2_with fail
    go_round
    case rel=>exact ⟨k+1,by omega,by go_num,HP.out⟩
    case measure=>simp [intOf];omega
   ·have hv':x<0∨16777216<x:=by omega
    have H:=Lib.hid hv'
    clear hv hv' hpre
    go_wp2_with fail
    refine (pred_no x H.out _).mono ?_
    rintro e w' ⟨rfl,rfl⟩
    go_wp2_with fail
    go_ret
    exact ⟨k,by omega,rfl,rfl⟩
  ·obtain rfl:k=n:=by omega
   rw [List.take_of_length_le (by have:=HL.out;omega)] at hpre
   exact absurd hpre HV.out
theorem cont_none (A:Option Addr) (n c:Nat) (l:List Int) (w:World) (h:Row w A n l) (hm:n≤9223372036854775807) (hb:Btw 0 16777216 l) :
  Calls Tryz.prog 139 #[.slice A n c,.func (.func 140) #[] #[]] w fun e w'=>e=.returned (.bool false)∧w=w':=by
 have C:=Lib.hid (index_none A n c l w h hm hb)
 clear h hb
 go_enter Tryz.func139,Tryz.ntmps139
 go_wp2_with fail
 refine (C.out).mono ?_
 rintro e w' ⟨rfl,rfl⟩
 go_wp2_with fail
 go_ret
 exact ⟨rfl,rfl⟩
theorem cont_some (A:Option Addr) (n c:Nat) (l:List Int) (w:World) (h:Row w A n l) (hm:n≤9223372036854775807) (hb:¬ Btw 0 16777216 l) :
  Calls Tryz.prog 139 #[.slice A n c,.func (.func 140) #[] #[]] w fun e w'=>e=.returned (.bool true)∧w=w':=by
 have C:=Lib.hid (index_some A n c l w h hm hb)
 clear h hb
 go_enter Tryz.func139,Tryz.ntmps139
 go_wp2_with fail
 refine C.out.mono ?_
 rintro e w' ⟨k,hk,rfl,rfl⟩
 go_wp2_with fail
 go_ret
 exact ⟨rfl,rfl⟩
theorem list_ok (A:Option Addr) (n c:Nat) (l:List Int) (w:World) (h:Row w A n l) (hm:n≤64) (hb:Btw 0 16777216 l) :
  Calls Tryz.prog 111 #[.slice A n c] w fun e w'=>e=.returned (.int .i64 0)∧w=w':=by
 have C:=Lib.hid (cont_none A n c l w h (by omega) hb)
 clear h hb
 go_enter Tryz.func111,Tryz.ntmps111
 go_wp2_with fail
 refine (C.out).mono ?_
 rintro e w' ⟨rfl,rfl⟩
 go_wp2_with fail
 go_ret
 exact ⟨rfl,rfl⟩
theorem list_bad (A:Option Addr) (n c:Nat) (l:List Int) (w:World) (h:Row w A n l) (hm:n≤64) (hb:¬ Btw 0 16777216 l) :
  Calls Tryz.prog 111 #[.slice A n c] w fun e w'=>e=.returned (.int .i64 1)∧w=w':=by
 have C:=Lib.hid (cont_some A n c l w h (by omega) hb)
 clear h hb
 go_enter Tryz.func111,Tryz.ntmps111
 go_wp2_with fail
 refine (C.out).mono ?_
 rintro e w' ⟨rfl,rfl⟩
 go_wp2_with fail
 go_ret
 exact ⟨rfl,rfl⟩
theorem list_large (A:Option Addr) (n c:Nat) (w:World) (hm:64<n) (hn:n≤9223372036854775807) :
  Calls Tryz.prog 111 #[.slice A n c] w fun e w'=>e=.returned (.int .i64 2)∧w=w':=by
 go_enter Tryz.func111,Tryz.ntmps111
 go_wp2_with fail
 go_ret
 exact ⟨rfl,rfl⟩
end Go.Proofs.YtnaebigoknfndaaGreatDoor
namespace Go.Proofs.YtnaebigoknfndaaGreatDoor
open Go.RowKit
end Go.Proofs.YtnaebigoknfndaaGreatDoor
namespace Go.Proofs.YtnaebigoknfndaaGreatDoor
open Go.RowKit
def vals (l:List Int):List Int:=(l.take 64).map fun x=>within x 16777217
end Go.Proofs.YtnaebigoknfndaaGreatDoor
namespace Go.Proofs.YtnaebigoknfndaaGreatDoor
open Go.RowKit
end Go.Proofs.YtnaebigoknfndaaGreatDoor
namespace Go.Proofs.YtnaebigoknfndaaGreatDoor
open Go.RowKit
theorem wcheck_ok (z:Int) (A:Option Addr) (n c:Nat) (l:List Int) (w:World) (hr:Row w A n l) (hz:1≤z∧z≤64) (hn:(n:Int)≤z) (hb:Btw 0 16777216 l) :
  Calls Tryz.prog 146 #[.agg #[.int .i64 z,.slice A n c]] w fun e w'=>e=.returned (.int .i64 0)∧Below w.heap.size w w':=by
 have hc:∀ w',Row w' A n l→_:=fun w' h=>list_ok A n c l w' h (by omega) hb
 have HC:=Lib.hid hc
 have HR:=Lib.hid hr
 obtain ⟨h1,h2⟩:=hz
 have h3:¬ z<(n:Int):=by omega
 clear hc hr hb
 have qa:=alloc_cells
 have qf:=alloc_frozens
 go_enter Tryz.func146,Tryz.ntmps146
 go_wp2_with fail
 refine (HC.out _ (HR.out.below (by repeat (first | (with_reducible exact Below.refl _ _) | (with_reducible refine bAl ?_ _) | (with_reducible refine bSc ?_ _) | (with_reducible refine Below.drew ?_) | (refine Below.trans ?_ (by assumption)))))).mono ?_
 rintro e w' ⟨rfl,rfl⟩
 go_wp2_with fail
 go_ret
 exact ⟨rfl,(by repeat (first | (with_reducible exact Below.refl _ _) | (with_reducible refine bAl ?_ _) | (with_reducible refine bSc ?_ _) | (with_reducible refine Below.drew ?_) | (refine Below.trans ?_ (by assumption))))⟩
theorem row_drop {w:World} {b off n k:Nat} {l:List Int} (h:Row w (some ⟨b,off,none⟩) n l) (hk:k≤n):Row w (some ⟨b,off+k,none⟩) (n - k) (l.drop k):=by
 refine ⟨by rw [List.length_drop,h.1],fun hn=>?_⟩
 obtain ⟨b',off',e,lt,hc⟩:=h.2 (by omega)
 injection e with e
 injection e with e1 e2
 subst e1 e2
 refine ⟨b,off+k,rfl,lt,fun j hj=>?_⟩
 rw [show off+k+j=off+(k+j) by omega,hc (k+j) (by omega)]
 simp [List.getD,List.getElem?_drop]
end Go.Proofs.YtnaebigoknfndaaGreatDoor
namespace Go.Proofs.YtnaebigoknfndaaGreatDoor
open Go.RowKit
theorem clone_own (A:Option Addr) (n c:Nat) (l:List Int) (w:World) (hr:Row w A n l) (hm:n≤1000000) :
  Calls Tryz.prog 205 #[.slice A n c] w fun e w'=>∃ v,e=.returned v∧w'.ownsRow w.heap.size 3 1 v n (l.map (Value.int .i64))∧Below w.heap.size w w':=by
 have hq:=fun (w:World)=>Lib.run_eql_slice_nil (P:=Tryz.prog) w 90 3 A n c 0 0 Tryz.underlying90
 rcases A with _ | ad
 ·have h0:n=0:=by
   rcases Nat.eq_zero_or_pos n with h | h
   ·exact h
   ·obtain ⟨b,off,e,_⟩:=hr.at h;cases e
  subst h0
  have hl:l = []:=List.eq_nil_of_length_eq_zero hr.1
  subst hl
  clear hr
  simp only [Option.isNone] at hq
  go_enter Tryz.func205,Tryz.ntmps205
  go_wp2_with fail
  go_ret
  exact ⟨_,rfl,World.ownsRow_nil _ _ _ _,Below.refl _ _⟩
 ·simp only [Option.isNone] at hq
  obtain ⟨i0,hi,hz0,hz1,hz2⟩:=info_parts info_int
  have hlen:(l.map (Value.int .i64)).length=n * 1:=by simp [hr.1]
  have hca:=hr.cellsAt
  have HCa:=Lib.hid hca
  have HLen:=Lib.hid hlen
  clear hr hca hlen
  go_enter Tryz.func205,Tryz.ntmps205
  go_wp2_with (at_builtin;refine wpList_append_own _ rfl _ _ 90 rfl w.heap.size 3 i0 (.int .i64 0) 1 8 Tryz.underlying90 hi hz0 hz1 hz2 rfl (by decide) _ _ _ rfl (World.ownsRow_made w #[] 0 (Nat.le_refl _) (Nat.zero_le _) rfl) ad n c (l.map (Value.int .i64)) rfl HLen.out (HCa.out _) (ints_one l) (by unfold maxLen;omega) (by omega) (by simp) ?_)
  intro v1 w1 own1 gr1 _
  obtain ⟨A1,c1,rfl,q1,q2,q3⟩:=own_form own1
  have bel:=((Below.refl w.heap.size w).alloc (Nat.le_refl _) (.cells #[] 3)).grown gr1 (by simp) (fun g hg=>by simp [Value.ownBlock] at hg;omega)
  have own2:w1.ownsRow w.heap.size 3 1 (.slice A1 n c1) n (l.map (Value.int .i64)):=by simpa using own1
  have HO:=Lib.hid own2
  clear own1 gr1 own2
  go_wp2_with fail
  go_ret
  exact ⟨_,by simp,HO.out,bel⟩
end Go.Proofs.YtnaebigoknfndaaGreatDoor
namespace Go.Proofs.YtnaebigoknfndaaGreatDoor
open Go.RowKit
def pushd (z:Int) (l:List Int) (v:Int):List Int:=(if (l.length:Int)=z then l.drop 1 else l) ++ [v]
theorem own_set {w:World} {B e s n:Nat} {v:Value} {xs:List Value} (h:w.ownsRow B e s v n xs) {b:Nat} (hb:b<B) (o:Nat) (u:Value):(w.setCell ⟨b,o,none⟩ u).ownsRow B e s v n xs:=by
 refine ⟨h.1,h.2.imp id fun ⟨g,cap,cur,h1,h2,h3,h4⟩=>⟨g,cap,cur,h1,h2,?_,h4⟩⟩
 have:¬ b=g:=by omega
 simp [World.setCell,Array.getElem?_modify,this,h3]
theorem own_mono {w:World} {B B' e s n:Nat} {v:Value} {xs:List Value} (h:w.ownsRow B e s v n xs) (hb:B'≤B):w.ownsRow B' e s v n xs:=
 ⟨h.1,h.2.imp id fun ⟨g,cap,cur,h1,h2,h3⟩=>⟨g,cap,cur,h1,Nat.le_trans hb h2,h3⟩⟩
theorem push_grow (z v:Int) (A:Option Addr) (n c:Nat) (l:List Int) (w:World) (hr:Row w A n l) (hz:1≤z∧z≤64) (hn:(n:Int)≤z) (hb:Btw 0 16777216 l) (hv:0≤v∧v≤16777216) (hne:¬ (n:Int)=z) :
  Calls Tryz.prog 180 #[.agg #[.int .i64 z,.slice A n c],.int .i64 v] w fun e w'=>∃ A' c',e=.returned (.tuple #[.agg #[.int .i64 z,.slice A' (n+1) c'],.int .i64 0])∧w'.ownsRow w.heap.size 3 1 (.slice A' (n+1) c') (n+1) ((l ++ [v]).map (Value.int .i64))∧Below w.heap.size w w':=by
 have hc:∀ w',Row w' A n l→_:=fun w' h=>wcheck_ok z A n c l w' h hz hn hb
 have hcl:∀ w',Row w' A n l→_:=fun w' h=>clone_own A n c l w' h (by omega)
 have HC:=Lib.hid hc
 have HCl:=Lib.hid hcl
 have HR:=Lib.hid hr
 have hne2:((n:Int)==z)=false:=by simpa using hne
 obtain ⟨v0,v1⟩:=hv
 obtain ⟨i0,hi,hz0,hz1,hz2⟩:=info_parts info_int
 have qa:=alloc_cells
 have qf:=alloc_frozens
 clear hc hcl hr hb
 go_enter Tryz.func180,Tryz.ntmps180
 go_wp2_with fail
 refine (HC.out _ (HR.out.below (by repeat (first | (with_reducible exact Below.refl _ _) | (with_reducible refine bAl ?_ _) | (with_reducible refine bSc ?_ _) | (with_reducible refine Below.drew ?_) | (refine Below.trans ?_ (by assumption)))))).mono ?_
 rintro e w1 ⟨rfl,hb1⟩
 have z1:=hb1.size
 have c1:=Below.cells hb1
 have f1:=Below.frozens hb1
 try simp only [World.size_alloc,World.size_setCell,World.size_drew] at z1 c1 f1
 go_wp2_with fail
 refine (val_ok v v0 v1 _).mono ?_
 rintro e w' ⟨rfl,rfl⟩
 go_wp2_with fail
 have KZ:w1.cell? ⟨w.heap.size,0,none⟩=some (.int .i64 z):=by simp [go_sem,↓IntWalk.iteOmega, *]
 have KA:w1.cell? ⟨w.heap.size+1,0,none⟩=some (.int .i64 0):=by simp [go_sem,↓IntWalk.iteOmega, *]
 have KB:w1.cell? ⟨w.heap.size+1,1,none⟩=some (.slice none 0 0):=by simp [go_sem,↓IntWalk.iteOmega, *]
 have KF:∀ o,w1.frozen? ⟨w.heap.size+1,o,none⟩=false:=by intro o;simp [go_sem,↓IntWalk.iteOmega, *]
 clear c1 f1 qa qf
 go_region_held3 (fun w'=>w'.cell? ⟨w.heap.size,0,none⟩=some (.int .i64 z)) (first | assumption | exact kk2 | (rw [alloc_cells,if_pos (by omega)];assumption) | (refine (alloc_cells w1 _ _ _ _).trans ?_;rw [if_pos (by omega)];exact KZ) | (rw [World.cell?_setCell_far _ _ _ _ (by simp),World.cell?_setCell_far _ _ _ _ (by simp)];exact kk2))
  (first
    | (refine (HCl.out _ (HR.out.below (by repeat (first | (with_reducible exact Below.refl _ _) | (with_reducible refine bAl ?_ _) | (with_reducible refine bSc ?_ _) | (with_reducible refine Below.drew ?_) | (with_reducible refine bTm ?_ hb1))))).mono ?_;rintro e wk ⟨vk,rfl,ownk,hbk⟩;obtain ⟨Ak,ck,rfl,pk,qk,nk⟩:=own_form ownk;have zk:=hbk.size;(try simp only [World.size_alloc,World.size_setCell,World.size_drew] at zk);have bk:Below (w.heap.size+2) w1 wk:=(by repeat (first | (with_reducible exact Below.refl _ _) | (with_reducible refine bAl ?_ _) | (with_reducible refine bSc ?_ _) | (with_reducible refine Below.drew ?_) | (with_reducible refine bTm ?_ hbk)));have kk:=(bk.cell (p:=⟨w.heap.size,0,none⟩) (by (try simp only [World.size_alloc,World.size_drew]);omega)).trans KZ)
    | (refine step_append_lies _ (by rfl) _ _ _ (by rfl) _ 3 i0 _ 1 8 Tryz.underlying90 hi hz0 hz1 hz2 rfl (by omega) _ n (l.map (Value.int .i64)) (by rfl) (ownk.alloc _)
         ⟨wk.heap.size,0,none⟩ 1 1 [.int .i64 v] (by rfl) (by rfl) (World.news_of_block (cs:=#[.int .i64 v]) (t:=3) (fr:=(0,0)) (heap_alloc_new wk _)) (app1_one _ _)
         (by omega) (by unfold maxLen;omega) (by omega) (by simp;omega) (wk.heap.size+1) (by simp) ?_;intro gg cap wq ownq grq atq ltq;
        have hbq:Below (w.heap.size+2) w1 wq:=(bk.alloc (by omega) _).grown grq (by simp;omega) (fun k e=>by have:=(World.ownsRow.lt ownk _ e).1;simp only [World.size_alloc,World.size_drew] at this;omega);
        have kk2:=(hbq.cell (p:=⟨w.heap.size,0,none⟩) (by (try simp only [World.size_alloc,World.size_drew]);omega)).trans KZ;
        have ka:=(hbq.cell (p:=⟨w.heap.size+1,0,none⟩) (by (try simp only [World.size_alloc,World.size_drew]);omega)).trans KA;
        have kb:=(hbq.cell (p:=⟨w.heap.size+1,1,none⟩) (by (try simp only [World.size_alloc,World.size_drew]);omega)).trans KB;
        have kf:=fun o=>(hbq.frozen (p:=⟨w.heap.size+1,o,none⟩) (by (try simp only [World.size_alloc,World.size_drew]);omega)).trans (KF o);clear grq)
    | (refine step_append_lies _ (by rfl) _ _ _ (by rfl) _ 3 i0 _ 1 8 Tryz.underlying90 hi hz0 hz1 hz2 rfl (by omega) _ n (l.map (Value.int .i64)) (by rfl) ownk
         ⟨w1.heap.size,0,none⟩ 1 1 [.int .i64 v] (by rfl) (by rfl) (World.news_of_block (cs:=#[.int .i64 v]) (t:=3) (fr:=(0,0)) ((hbk.block _ (by simp)).trans (heap_alloc_new w1 _))) (app1_one _ _)
         (by omega) (by unfold maxLen;omega) (by omega) (by simp;omega) wk.heap.size (by simp) ?_;intro gg cap wq ownq grq atq ltq;
        have hbq:Below (w.heap.size+2) w1 wq:=bk.grown grq (by omega) (fun k e=>by have:=(World.ownsRow.lt ownk _ e).1;simp only [World.size_alloc,World.size_drew] at this;omega);
        have kk2:=(hbq.cell (p:=⟨w.heap.size,0,none⟩) (by (try simp only [World.size_alloc,World.size_drew]);omega)).trans KZ;
        have ka:=(hbq.cell (p:=⟨w.heap.size+1,0,none⟩) (by (try simp only [World.size_alloc,World.size_drew]);omega)).trans KA;
        have kb:=(hbq.cell (p:=⟨w.heap.size+1,1,none⟩) (by (try simp only [World.size_alloc,World.size_drew]);omega)).trans KB;
        have kf:=fun o=>(hbq.frozen (p:=⟨w.heap.size+1,o,none⟩) (by (try simp only [World.size_alloc,World.size_drew]);omega)).trans (KF o);clear grq))
 all_goals
  have bel:Below w.heap.size w ((wq.setCell ⟨w.heap.size+1,0,none⟩ (.int .i64 z)).setCell ⟨w.heap.size+1,1,none⟩ (.slice (some ⟨gg,0,none⟩) (n+1) cap)):=(by repeat (first | (with_reducible exact Below.refl _ _) | (with_reducible refine bAl ?_ _) | (with_reducible refine bSc ?_ _) | (with_reducible refine Below.drew ?_) | (with_reducible refine bTm ?_ hbq) | (with_reducible refine bTm ?_ hb1)))
  have own2:wq.ownsRow (w.heap.size+2) 3 1 (.slice (some ⟨gg,0,none⟩) (n+1) cap) (n+1) ((l ++ [v]).map (Value.int .i64)):=by
   simpa using own_mono (B':=w.heap.size+2) ownq (by (try simp only [World.size_alloc,World.size_drew]);omega)
  have hin:=own_mono (own_set (own_set own2 (b:=w.heap.size+1) (by omega) 0 (.int .i64 z)) (b:=w.heap.size+1) (by omega) 1 (.slice (some ⟨gg,0,none⟩) (n+1) cap)) (B':=w.heap.size) (by omega)
  have HI:=Lib.hid hin
  have HB:=Lib.hid bel
  clear bel own2 hin ownq ownk hbq hbk bk
  go_wp2_with fail
  refine bodyPost_ret (v:=.tuple #[.agg #[.int .i64 z,.slice (some ⟨gg,0,none⟩) (n+1) cap],.int .i64 0]) (by simp [results,Tryz.f180,go_sem,↓IntWalk.iteOmega, *]) rfl ?_
  exact ⟨_,_,rfl,HI.out,HB.out⟩
end Go.Proofs.YtnaebigoknfndaaGreatDoor

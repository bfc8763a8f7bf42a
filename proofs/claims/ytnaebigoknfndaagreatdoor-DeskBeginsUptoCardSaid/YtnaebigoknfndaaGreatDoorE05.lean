/- What the desk's two laws lean on: part 05 (contracts and plain laws; their conditions stand in each). -/
import Derived.Test.YtnaebigoknfndaaGreatDoorE01
import Derived.Test.YtnaebigoknfndaaGreatDoorE02
set_option linter.unusedVariables false
set_option linter.unusedSimpArgs false
set_option maxRecDepth 100000
set_option maxHeartbeats 20000000
namespace Go.Proofs.YtnaebigoknfndaaGreatDoor
open Go.RowKit
theorem push_full2 (z v:Int) (b off:Nat) (n c:Nat) (l:List Int) (w:World) (hr:Row w (some ⟨b,off,none⟩) (n+1) l) (hz:1≤z∧z≤64) (hcap:n+1≤c) (hc2:¬ c=1) (hb:Btw 0 16777216 l) (hv:0≤v∧v≤16777216) (he:((n+1:Nat):Int)=z) :
  Calls Tryz.prog 180 #[.agg #[.int .i64 z,.slice (some ⟨b,off,none⟩) (n+1) c],.int .i64 v] w fun e w'=>∃ A' c',e=.returned (.tuple #[.agg #[.int .i64 z,.slice A' (n+1) c'],.int .i64 0])∧w'.ownsRow w.heap.size 3 1 (.slice A' (n+1) c') (n+1) ((l.drop 1 ++ [v]).map (Value.int .i64))∧Below w.heap.size w w':=by
 have hc:∀ w',Row w' (some ⟨b,off,none⟩) (n+1) l→_:=fun w' h=>wcheck_ok z (some ⟨b,off,none⟩) (n+1) c l w' h hz (by omega) hb
 have hcl:∀ w',Row w' (some ⟨b,off+1,none⟩) n (l.drop 1)→_:=fun w' h=>clone_own (some ⟨b,off+1,none⟩) n (c - 1) (l.drop 1) w' h (by omega)
 have hr2:Row w (some ⟨b,off+1,none⟩) n (l.drop 1):=row_drop hr (k:=1) (by omega)
 have HR2:=Lib.hid hr2
 have HE:=Lib.hid he
 have n63:n≤63:=by omega
 have hc1:¬ c<1:=by omega
 obtain ⟨m,hm⟩:∃ m,l.drop 1=m:=⟨_,rfl⟩
 rw [hm] at hr2 HR2 hcl ⊢
 have HC:=Lib.hid hc
 have HCl:=Lib.hid hcl
 have HR:=Lib.hid hr
 have hne2:(((n+1:Nat):Int)==z)=true:=by simpa using he
 obtain ⟨v0,v1⟩:=hv
 obtain ⟨i0,hi,hz0,hz1,hz2⟩:=info_parts info_int
 have qa:=alloc_cells
 have qf:=alloc_frozens
 have HM:=Lib.hid hm
 clear hc hcl hr hb hr2 hm he
 go_enter Tryz.func180,Tryz.ntmps180
 go_wp2_with fail
 refine (HC.out _ (HR.out.below (by repeat (first | (with_reducible exact Below.refl _ _) | (with_reducible refine bAl ?_ _) | (with_reducible refine bSc ?_ _) | (with_reducible refine Below.drew ?_) | (refine Below.trans ?_ (by assumption)))))).mono ?_
 rintro e w1 ⟨rfl,hb1⟩
 have z1:=hb1.size
 have c1:=Below.cells hb1
 have f1:=Below.frozens hb1
 try simp only [World.size_alloc,World.size_setCell,World.size_drew] at z1 c1 f1
 go_wp2_with fail
 refine (val_ok v v0 v1 _).mono ?_
 rintro e w' ⟨rfl,rfl⟩
 go_wp2_with fail
 have KZ:w1.cell? ⟨w.heap.size,0,none⟩=some (.int .i64 z):=by simp [go_sem,↓IntWalk.iteOmega, *]
 have KA:w1.cell? ⟨w.heap.size+1,0,none⟩=some (.int .i64 0):=by simp [go_sem,↓IntWalk.iteOmega, *]
 have KB:w1.cell? ⟨w.heap.size+1,1,none⟩=some (.slice none 0 0):=by simp [go_sem,↓IntWalk.iteOmega, *]
 have KF:∀ o,w1.frozen? ⟨w.heap.size+1,o,none⟩=false:=by intro o;simp [go_sem,↓IntWalk.iteOmega, *]
 clear c1 f1 qa qf
 go_region_held3 (fun w'=>w'.cell? ⟨w.heap.size,0,none⟩=some (.int .i64 z)) (first | assumption | exact kk2 | (rw [alloc_cells,if_pos (by omega)];assumption) | (refine (alloc_cells w1 _ _ _ _).trans ?_;rw [if_pos (by omega)];exact KZ) | (rw [World.cell?_setCell_far _ _ _ _ (by simp),World.cell?_setCell_far _ _ _ _ (by simp)];exact kk2))
  (first
    | (refine (HCl.out _ (HR2.out.below (by repeat (first | (with_reducible exact Below.refl _ _) | (with_reducible refine bAl ?_ _) | (with_reducible refine bSc ?_ _) | (with_reducible refine Below.drew ?_) | (with_reducible refine bTm ?_ hb1))))).mono ?_;rintro e wk ⟨vk,rfl,ownk,hbk⟩;obtain ⟨Ak,ck,rfl,pk,qk,nk⟩:=own_form ownk;have zk:=hbk.size;(try simp only [World.size_alloc,World.size_setCell,World.size_drew] at zk);have bk:Below (w.heap.size+2) w1 wk:=(by repeat (first | (with_reducible exact Below.refl _ _) | (with_reducible refine bAl ?_ _) | (with_reducible refine bSc ?_ _) | (with_reducible refine Below.drew ?_) | (with_reducible refine bTm ?_ hbk)));have kk:=(bk.cell (p:=⟨w.heap.size,0,none⟩) (by (try simp only [World.size_alloc,World.size_drew]);omega)).trans KZ)
    | (refine step_append_lies _ (by rfl) _ _ _ (by rfl) _ 3 i0 _ 1 8 Tryz.underlying90 hi hz0 hz1 hz2 rfl (by omega) _ n (m.map (Value.int .i64)) (by rfl) (ownk.alloc _)
         ⟨wk.heap.size,0,none⟩ 1 1 [.int .i64 v] (by rfl) (by rfl) (World.news_of_block (cs:=#[.int .i64 v]) (t:=3) (fr:=(0,0)) (heap_alloc_new wk _)) (app1_one _ _)
         (by omega) (by unfold maxLen;omega) (by omega) (by simp;omega) (wk.heap.size+1) (by simp) ?_;intro gg cap wq ownq grq atq ltq;
        have hbq:Below (w.heap.size+2) w1 wq:=(bk.alloc (by omega) _).grown grq (by simp;omega) (fun k e=>by have:=(World.ownsRow.lt ownk _ e).1;simp only [World.size_alloc,World.size_drew] at this;omega);
        have kk2:=(hbq.cell (p:=⟨w.heap.size,0,none⟩) (by (try simp only [World.size_alloc,World.size_drew]);omega)).trans KZ;
        have ka:=(hbq.cell (p:=⟨w.heap.size+1,0,none⟩) (by (try simp only [World.size_alloc,World.size_drew]);omega)).trans KA;
        have kb:=(hbq.cell (p:=⟨w.heap.size+1,1,none⟩) (by (try simp only [World.size_alloc,World.size_drew]);omega)).trans KB;
        have kf:=fun o=>(hbq.frozen (p:=⟨w.heap.size+1,o,none⟩) (by (try simp only [World.size_alloc,World.size_drew]);omega)).trans (KF o);clear grq)
    | (refine step_append_lies _ (by rfl) _ _ _ (by rfl) _ 3 i0 _ 1 8 Tryz.underlying90 hi hz0 hz1 hz2 rfl (by omega) _ n (m.map (Value.int .i64)) (by rfl) ownk
         ⟨w1.heap.size,0,none⟩ 1 1 [.int .i64 v] (by rfl) (by rfl) (World.news_of_block (cs:=#[.int .i64 v]) (t:=3) (fr:=(0,0)) ((hbk.block _ (by simp)).trans (heap_alloc_new w1 _))) (app1_one _ _)
         (by omega) (by unfold maxLen;omega) (by omega) (by simp;omega) wk.heap.size (by simp) ?_;intro gg cap wq ownq grq atq ltq;
        have hbq:Below (w.heap.size+2) w1 wq:=bk.grown grq (by omega) (fun k e=>by have:=(World.ownsRow.lt ownk _ e).1;simp only [World.size_alloc,World.size_drew] at this;omega);
        have kk2:=(hbq.cell (p:=⟨w.heap.size,0,none⟩) (by (try simp only [World.size_alloc,World.size_drew]);omega)).trans KZ;
        have ka:=(hbq.cell (p:=⟨w.heap.size+1,0,none⟩) (by (try simp only [World.size_alloc,World.size_drew]);omega)).trans KA;
        have kb:=(hbq.cell (p:=⟨w.heap.size+1,1,none⟩) (by (try simp only [World.size_alloc,World.size_drew]);omega)).trans KB;
        have kf:=fun o=>(hbq.frozen (p:=⟨w.heap.size+1,o,none⟩) (by (try simp only [World.size_alloc,World.size_drew]);omega)).trans (KF o);clear grq))
 all_goals
  have bel:Below w.heap.size w ((wq.setCell ⟨w.heap.size+1,0,none⟩ (.int .i64 z)).setCell ⟨w.heap.size+1,1,none⟩ (.slice (some ⟨gg,0,none⟩) (n+1) cap)):=(by repeat (first | (with_reducible exact Below.refl _ _) | (with_reducible refine bAl ?_ _) | (with_reducible refine bSc ?_ _) | (with_reducible refine Below.drew ?_) | (with_reducible refine bTm ?_ hbq) | (with_reducible refine bTm ?_ hb1)))
  have own2:wq.ownsRow (w.heap.size+2) 3 1 (.slice (some ⟨gg,0,none⟩) (n+1) cap) (n+1) ((m ++ [v]).map (Value.int .i64)):=by
   simpa using own_mono (B':=w.heap.size+2) ownq (by (try simp only [World.size_alloc,World.size_drew]);omega)
  have hin:=own_mono (own_set (own_set own2 (b:=w.heap.size+1) (by omega) 0 (.int .i64 z)) (b:=w.heap.size+1) (by omega) 1 (.slice (some ⟨gg,0,none⟩) (n+1) cap)) (B':=w.heap.size) (by omega)
  have HI:=Lib.hid hin
  have HB:=Lib.hid bel
  clear bel own2 hin ownq ownk hbq hbk bk
  go_wp2_with fail
  refine bodyPost_ret (v:=.tuple #[.agg #[.int .i64 z,.slice (some ⟨gg,0,none⟩) (n+1) cap],.int .i64 0]) (by simp [results,Tryz.f180,go_sem,↓IntWalk.iteOmega, *]) rfl ?_
  exact ⟨_,_,rfl,HI.out,HB.out⟩
theorem push_full1 (z v:Int) (b off:Nat) (n:Nat) (l:List Int) (w:World) (hr:Row w (some ⟨b,off,none⟩) (n+1) l) (hz:1≤z∧z≤64) (hcap:n+1≤1) (hb:Btw 0 16777216 l) (hv:0≤v∧v≤16777216) (he:((n+1:Nat):Int)=z) :
  Calls Tryz.prog 180 #[.agg #[.int .i64 z,.slice (some ⟨b,off,none⟩) (n+1) 1],.int .i64 v] w fun e w'=>∃ A' c',e=.returned (.tuple #[.agg #[.int .i64 z,.slice A' (n+1) c'],.int .i64 0])∧w'.ownsRow w.heap.size 3 1 (.slice A' (n+1) c') (n+1) ((l.drop 1 ++ [v]).map (Value.int .i64))∧Below w.heap.size w w':=by
 have hc:∀ w',Row w' (some ⟨b,off,none⟩) (n+1) l→_:=fun w' h=>wcheck_ok z (some ⟨b,off,none⟩) (n+1) 1 l w' h hz (by omega) hb
 have hcl:∀ w',Row w' (some ⟨b,off,none⟩) n (l.drop 1)→_:=fun w' h=>clone_own (some ⟨b,off,none⟩) n 0 (l.drop 1) w' h (by omega)
 have hr2:Row w (some ⟨b,off,none⟩) n (l.drop 1):=⟨by rw [List.length_drop,hr.1];omega,fun h=>by omega⟩
 have HR2:=Lib.hid hr2
 have HE:=Lib.hid he
 have n63:n≤63:=by omega
 obtain ⟨m,hm⟩:∃ m,l.drop 1=m:=⟨_,rfl⟩
 rw [hm] at hr2 HR2 hcl ⊢
 have HC:=Lib.hid hc
 have HCl:=Lib.hid hcl
 have HR:=Lib.hid hr
 have hne2:(((n+1:Nat):Int)==z)=true:=by simpa using he
 obtain ⟨v0,v1⟩:=hv
 obtain ⟨i0,hi,hz0,hz1,hz2⟩:=info_parts info_int
 have qa:=alloc_cells
 have qf:=alloc_frozens
 have HM:=Lib.hid hm
 clear hc hcl hr hb hr2 hm he hcap
 go_enter Tryz.func180,Tryz.ntmps180
 go_wp2_with fail
 refine (HC.out _ (HR.out.below (by repeat (first | (with_reducible exact Below.refl _ _) | (with_reducible refine bAl ?_ _) | (with_reducible refine bSc ?_ _) | (with_reducible refine Below.drew ?_) | (refine Below.trans ?_ (by assumption)))))).mono ?_
 rintro e w1 ⟨rfl,hb1⟩
 have z1:=hb1.size
 have c1:=Below.cells hb1
 have f1:=Below.frozens hb1
 try simp only [World.size_alloc,World.size_setCell,World.size_drew] at z1 c1 f1
 go_wp2_with fail
 refine (val_ok v v0 v1 _).mono ?_
 rintro e w' ⟨rfl,rfl⟩
 go_wp2_with fail
 have KZ:w1.cell? ⟨w.heap.size,0,none⟩=some (.int .i64 z):=by simp [go_sem,↓IntWalk.iteOmega, *]
 have KA:w1.cell? ⟨w.heap.size+1,0,none⟩=some (.int .i64 0):=by simp [go_sem,↓IntWalk.iteOmega, *]
 have KB:w1.cell? ⟨w.heap.size+1,1,none⟩=some (.slice none 0 0):=by simp [go_sem,↓IntWalk.iteOmega, *]
 have KF:∀ o,w1.frozen? ⟨w.heap.size+1,o,none⟩=false:=by intro o;simp [go_sem,↓IntWalk.iteOmega, *]
 clear c1 f1 qa qf
 go_region_held3 (fun w'=>w'.cell? ⟨w.heap.size,0,none⟩=some (.int .i64 z)) (first | assumption | exact kk2 | (rw [alloc_cells,if_pos (by omega)];assumption) | (refine (alloc_cells w1 _ _ _ _).trans ?_;rw [if_pos (by omega)];exact KZ) | (rw [World.cell?_setCell_far _ _ _ _ (by simp),World.cell?_setCell_far _ _ _ _ (by simp)];exact kk2))
  (first
    | (refine (HCl.out _ (HR2.out.below (by repeat (first | (with_reducible exact Below.refl _ _) | (with_reducible refine bAl ?_ _) | (with_reducible refine bSc ?_ _) | (with_reducible refine Below.drew ?_) | (with_reducible refine bTm ?_ hb1))))).mono ?_;rintro e wk ⟨vk,rfl,ownk,hbk⟩;obtain ⟨Ak,ck,rfl,pk,qk,nk⟩:=own_form ownk;have zk:=hbk.size;(try simp only [World.size_alloc,World.size_setCell,World.size_drew] at zk);have bk:Below (w.heap.size+2) w1 wk:=(by repeat (first | (with_reducible exact Below.refl _ _) | (with_reducible refine bAl ?_ _) | (with_reducible refine bSc ?_ _) | (with_reducible refine Below.drew ?_) | (with_reducible refine bTm ?_ hbk)));have kk:=(bk.cell (p:=⟨w.heap.size,0,none⟩) (by (try simp only [World.size_alloc,World.size_drew]);omega)).trans KZ)
    | (refine step_append_lies _ (by rfl) _ _ _ (by rfl) _ 3 i0 _ 1 8 Tryz.underlying90 hi hz0 hz1 hz2 rfl (by omega) _ n (m.map (Value.int .i64)) (by rfl) (ownk.alloc _)
         ⟨wk.heap.size,0,none⟩ 1 1 [.int .i64 v] (by rfl) (by rfl) (World.news_of_block (cs:=#[.int .i64 v]) (t:=3) (fr:=(0,0)) (heap_alloc_new wk _)) (app1_one _ _)
         (by omega) (by unfold maxLen;omega) (by omega) (by simp;omega) (wk.heap.size+1) (by simp) ?_;intro gg cap wq ownq grq atq ltq;
        have hbq:Below (w.heap.size+2) w1 wq:=(bk.alloc (by omega) _).grown grq (by simp;omega) (fun k e=>by have:=(World.ownsRow.lt ownk _ e).1;simp only [World.size_alloc,World.size_drew] at this;omega);
        have kk2:=(hbq.cell (p:=⟨w.heap.size,0,none⟩) (by (try simp only [World.size_alloc,World.size_drew]);omega)).trans KZ;
        have ka:=(hbq.cell (p:=⟨w.heap.size+1,0,none⟩) (by (try simp only [World.size_alloc,World.size_drew]);omega)).trans KA;
        have kb:=(hbq.cell (p:=⟨w.heap.size+1,1,none⟩) (by (try simp only [World.size_alloc,World.size_drew]);omega)).trans KB;
        have kf:=fun o=>(hbq.frozen (p:=⟨w.heap.size+1,o,none⟩) (by (try simp only [World.size_alloc,World.size_drew]);omega)).trans (KF o);clear grq)
    | (refine step_append_lies _ (by rfl) _ _ _ (by rfl) _ 3 i0 _ 1 8 Tryz.underlying90 hi hz0 hz1 hz2 rfl (by omega) _ n (m.map (Value.int .i64)) (by rfl) ownk
         ⟨w1.heap.size,0,none⟩ 1 1 [.int .i64 v] (by rfl) (by rfl) (World.news_of_block (cs:=#[.int .i64 v]) (t:=3) (fr:=(0,0)) ((hbk.block _ (by simp)).trans (heap_alloc_new w1 _))) (app1_one _ _)
         (by omega) (by unfold maxLen;omega) (by omega) (by simp;omega) wk.heap.size (by simp) ?_;intro gg cap wq ownq grq atq ltq;
        have hbq:Below (w.heap.size+2) w1 wq:=bk.grown grq (by omega) (fun k e=>by have:=(World.ownsRow.lt ownk _ e).1;simp only [World.size_alloc,World.size_drew] at this;omega);
        have kk2:=(hbq.cell (p:=⟨w.heap.size,0,none⟩) (by (try simp only [World.size_alloc,World.size_drew]);omega)).trans KZ;
        have ka:=(hbq.cell (p:=⟨w.heap.size+1,0,none⟩) (by (try simp only [World.size_alloc,World.size_drew]);omega)).trans KA;
        have kb:=(hbq.cell (p:=⟨w.heap.size+1,1,none⟩) (by (try simp only [World.size_alloc,World.size_drew]);omega)).trans KB;
        have kf:=fun o=>(hbq.frozen (p:=⟨w.heap.size+1,o,none⟩) (by (try simp only [World.size_alloc,World.size_drew]);omega)).trans (KF o);clear grq))
 all_goals
  have bel:Below w.heap.size w ((wq.setCell ⟨w.heap.size+1,0,none⟩ (.int .i64 z)).setCell ⟨w.heap.size+1,1,none⟩ (.slice (some ⟨gg,0,none⟩) (n+1) cap)):=(by repeat (first | (with_reducible exact Below.refl _ _) | (with_reducible refine bAl ?_ _) | (with_reducible refine bSc ?_ _) | (with_reducible refine Below.drew ?_) | (with_reducible refine bTm ?_ hbq) | (with_reducible refine bTm ?_ hb1)))
  have own2:wq.ownsRow (w.heap.size+2) 3 1 (.slice (some ⟨gg,0,none⟩) (n+1) cap) (n+1) ((m ++ [v]).map (Value.int .i64)):=by
   simpa using own_mono (B':=w.heap.size+2) ownq (by (try simp only [World.size_alloc,World.size_drew]);omega)
  have hin:=own_mono (own_set (own_set own2 (b:=w.heap.size+1) (by omega) 0 (.int .i64 z)) (b:=w.heap.size+1) (by omega) 1 (.slice (some ⟨gg,0,none⟩) (n+1) cap)) (B':=w.heap.size) (by omega)
  have HI:=Lib.hid hin
  have HB:=Lib.hid bel
  clear bel own2 hin ownq ownk hbq hbk bk
  go_wp2_with fail
  refine bodyPost_ret (v:=.tuple #[.agg #[.int .i64 z,.slice (some ⟨gg,0,none⟩) (n+1) cap],.int .i64 0]) (by simp [results,Tryz.f180,go_sem,↓IntWalk.iteOmega, *]) rfl ?_
  exact ⟨_,_,rfl,HI.out,HB.out⟩
theorem push_ok (z v:Int) (A:Option Addr) (n c:Nat) (l:List Int) (w:World) (hr:InRow w A n c l) (hz:1≤z∧z≤64) (hn:(n:Int)≤z) (hb:Btw 0 16777216 l) (hv:0≤v∧v≤16777216) :
  Calls Tryz.prog 180 #[.agg #[.int .i64 z,.slice A n c],.int .i64 v] w fun e w'=>∃ A' n' c',e=.returned (.tuple #[.agg #[.int .i64 z,.slice A' n' c'],.int .i64 0])∧w'.ownsRow w.heap.size 3 1 (.slice A' n' c') n' ((pushd z l v).map (Value.int .i64))∧Below w.heap.size w w':=by
 have hl:=hr.1.1
 by_cases he:(n:Int)=z
 ·obtain ⟨m,rfl⟩:∃ m,n=m+1:=⟨n - 1,by omega⟩
  obtain ⟨b,off,rfl,_⟩:=hr.1.2 (by omega)
  have hp:pushd z l v=l.drop 1 ++ [v]:=by unfold pushd;rw [if_pos (by rw [hl];exact he)]
  rw [hp]
  by_cases hc:c=1
  ·subst hc
   exact (push_full1 z v b off m l w hr.1 hz hr.2.1 hb hv he).mono fun e w' ⟨A',c',h1,h2,h3⟩=>⟨A',m+1,c',h1,h2,h3⟩
  ·exact (push_full2 z v b off m c l w hr.1 hz hr.2.1 hc hb hv he).mono fun e w' ⟨A',c',h1,h2,h3⟩=>⟨A',m+1,c',h1,h2,h3⟩
 ·have hp:pushd z l v=l ++ [v]:=by unfold pushd;rw [if_neg (by rw [hl];exact he)]
  rw [hp]
  exact (push_grow z v A n c l w hr.1 hz hn hb hv he).mono fun e w' ⟨A',c',h1,h2,h3⟩=>⟨A',n+1,c',h1,h2,h3⟩
end Go.Proofs.YtnaebigoknfndaaGreatDoor
namespace Go.Proofs.YtnaebigoknfndaaGreatDoor
open Go Go.RowKit
section
variable {P:Program} {ops:Array Oper} {md:Region.Mode} {C:World→Prop}
def chain2B (md:Region.Mode) (ops:Array Oper) (n:Nat):Bool:=
 (List.range ops.size).all fun t=>decide (t≤n) || (List.range ops.size).any fun j=>decide (n≤j) && Region.waitsFor md ops t j
theorem tail_waits2 {n:Nat} {listed:Array Bool} (hs:Region.sinkB md ops n=true) (hc:chain2B md ops n=true) (inv:HeadInv md ops n listed) :
  ∀ (d i:Nat),n - i=d→i<n→listed.getD i true=false→∀ t,n≤t→t∉Region.ready md ops listed:=by
 intro d
 induction d using Nat.strongRecOn with
 | _ d ih=>
  intro i hd hi hun t ht hr
  obtain ⟨_,ot,hot,hall⟩:=mem_ready.1 hr
  have htlt:t<ops.size:=(Array.getElem?_eq_some_iff.1 hot).1
  by_cases htn:t=n
  ·subst htn
   have h1:=List.all_eq_true.1 hs i (List.mem_range.2 hi)
   obtain ⟨j,hj,hj2⟩:=List.any_eq_true.1 h1
   simp only [Bool.and_eq_true,decide_eq_true_eq] at hj2
   obtain ⟨oj,hoj,e,he,hb,hon⟩:=Region.waitsFor_spec hj2.2
   have hjle:j≤t:=by have:=List.mem_range.1 hj;omega
   by_cases hjt:j=t
   ·subst hjt
    have:oj=ot:=Option.some.inj (hoj.symm.trans hot)
    subst this
    have h2:=hall e he hb
    rw [hon,getD_both hun] at h2
    cases h2
   ·cases hl:listed.getD j false with
    | true=>
     have h2:=inv.closed j oj hoj hl e he hb
     rw [hon,getD_both hun] at h2
     cases h2
    | false=>
     have hjs:j<listed.size:=by rw [inv.size];omega
     exact ih (t - j) (by omega) j rfl (by omega) (getD_in hjs hl) t (Nat.le_refl _) hr
  ·have h1:=List.all_eq_true.1 hc t (List.mem_range.2 htlt)
   simp only [Bool.or_eq_true,decide_eq_true_eq] at h1
   rcases h1 with h1 | h1
   ·omega
   ·obtain ⟨j,hj,hj2⟩:=List.any_eq_true.1 h1
    simp only [Bool.and_eq_true,decide_eq_true_eq] at hj2
    obtain ⟨o',ho',e,he,hb,hon⟩:=Region.waitsFor_spec hj2.2
    have:o'=ot:=Option.some.inj (ho'.symm.trans hot)
    subst this
    have h2:=hall e he hb
    rw [hon,getD_both (inv.tail j hj2.1 (List.mem_range.1 hj))] at h2
    cases h2
theorem headAny_first2 {n i:Nat} {oi:Oper} {v:Value} {L:Array Bool→Act→Prop} (hi:ops[i]? = some oi) (hsel:∀ (j:Nat) (o:Oper) cs b,ops[j]? = some o→o.op≠.select cs b)
  (hs:Region.sinkB md ops n=true) (hc:chain2B md ops n=true) (hin:i<n)
  (hdone:∀ listed a,L listed a→∀ j∈Region.ready md ops listed,n≤j) :
  ∀ (f:Nat) (listed:Array Bool) (a:Act),HeadInv md ops n listed →
   (∀ j oj,ops[j]? = some oj→j≠i→listed.getD j true=false→(∀ e∈oj.after,Region.binds md e=true→e.on≠i)→oi.apart ops oj=true) →
   i∈Region.ready md ops listed→YieldsIn P ops C oi v a →
   headAny P md ops C n L f (listed.setIfInBounds i true) (a.put oi.dst v)→headAny P md ops C n L (f+1) listed a:=by
 intro f
 induction f with
 | zero=>
  intro listed a inv _ hr hy H
  have hheads:∀ j∈Region.ready md ops listed,j<n:=fun j hj=>by
   rcases Nat.lt_or_ge j n with h | h
   ·exact h
   ·exact absurd hj (tail_waits2 hs hc inv _ i rfl hin (mem_ready.1 hr).1 j h)
  refine ⟨fun h=>(by rw [h] at hr;cases hr),fun j hj=>⟨hheads j hj,?_⟩⟩
  by_cases hji:j=i
  ·subst hji;exact hy.qOp hi H
  ·have h1:=hdone _ _ H j (ready_mono hj hji)
   have h2:=hheads j hj
   omega
 | succ f ih=>
  intro listed a inv hfree hr hy H
  have hheads:∀ j∈Region.ready md ops listed,j<n:=fun j hj=>by
   rcases Nat.lt_or_ge j n with h | h
   ·exact h
   ·exact absurd hj (tail_waits2 hs hc inv _ i rfl hin (mem_ready.1 hr).1 j h)
  refine ⟨fun h=>(by rw [h] at hr;cases hr),fun j hj=>⟨hheads j hj,?_⟩⟩
  by_cases hji:j=i
  ·subst hji;exact hy.qOp hi H
  ·obtain ⟨hjun,oj,hoj,hall⟩:=mem_ready.1 hj
   have step:=qOp_put hoj (hfree j oj hoj hji hjun (unlisted_not_bound hr hall)) (fun cs b=>hsel i oi cs b hi) (fun cs b=>hsel j oj cs b hoj) hy (H.2 j (ready_mono hj hji)).2
   refine qOp_mono (fun a' h3=>ih (listed.setIfInBounds j true) a' (inv.set hj (hheads j hj)) ?_ (ready_mono hr (Ne.symm hji)) h3.1 ?_) step
   ·intro k ok hk hki hun hno
    refine hfree k ok hk hki ?_ hno
    by_cases hjk:j=k
    ·subst hjk;exact hjun
    ·rwa [getD_set_ne true hjk] at hun
   ·rw [Array.setIfInBounds_comm _ _ hji]
    exact h3.2
def lexHeadT (md:Region.Mode) (ops:Array Oper) (T:Array Bool):Nat→Nat→Array Bool→Bool
 | 0,_,listed=>listed==T
 | f+1,k,listed=>(Region.ready md ops listed).contains k && Region.free md ops listed k && lexHeadT md ops T f (k+1) (listed.setIfInBounds k true)
def lexThenB (md:Region.Mode) (ops:Array Oper) (n:Nat) (T:Array Bool):Bool:=
 Region.noSelect ops && decide (n<ops.size) && Region.sinkB md ops n && chain2B md ops n && (Region.ready md ops T).all (fun j=>decide (n≤j)) && lexHeadT md ops T n 0 (Array.replicate ops.size false)
theorem headAny_lex2 {n:Nat} {T:Array Bool} {Lq:Act→Prop} (hsel:Region.noSelect ops=true) (hs:Region.sinkB md ops n=true) (hc:chain2B md ops n=true) (hT:∀ j∈Region.ready md ops T,n≤j) :
  ∀ (l:List Oper) (k:Nat) (listed:Array Bool) (a:Act),(∀ j,j<l.length→l[j]? = ops[k+j]?)→k+l.length=n→HeadInv md ops n listed →
  lexHeadT md ops T l.length k listed=true→wpQuiet P ops C Lq l a →
  headAny P md ops C n (fun listed' a'=>listed'=T∧Lq a') l.length listed a:=by
 intro l
 induction l with
 | nil=>
  intro k listed a _ hk _ hB h
  exact ⟨by simpa [lexHeadT] using hB,h⟩
 | cons o l ih=>
  intro k listed a hl hk inv hB h
  have h0:ops[k]? = some o:=by simpa using (hl 0 (by simp)).symm
  have hkn:k<n:=by simp only [List.length_cons] at hk;omega
  simp only [List.length_cons,lexHeadT,Bool.and_eq_true] at hB
  have hr:k∈Region.ready md ops listed:=by simpa using hB.1.1
  have hq:qOp P ops C k (wpQuiet P ops C Lq l) a:=by unfold qOp;simp only [h0];exact h
  obtain ⟨v,hy,hK⟩:=yieldsIn_of_qOp h0 hq
  refine headAny_first2 h0 (Region.noSelect_spec hsel) (L:=fun listed' a'=>listed'=T∧Lq a') hs hc hkn (fun listed' a' hL=>by rw [hL.1];exact hT) l.length listed a inv (Region.free_spec h0 hB.1.2) hr hy ?_
  refine ih (k+1) _ _ (fun j hj=>?_) (by simp only [List.length_cons] at hk;omega) (inv.set hr hkn) hB.2 hK
  have:=hl (j+1) (by simp;omega)
  simpa [Nat.add_assoc,Nat.add_comm 1 j] using this
theorem wp_region_quiet_then {id:Nat} {Q:Exit→Act→World→Prop} {a:Act} {w:World} {l:List Oper} (n:Nat) (T:Array Bool) (C:World→Prop) (hm:P.follows .mixedOrders=true) (hB:lexThenB .any l.toArray n T=true)
  (hC:C { w with drawn:=w.drawn+1 }) (h:wpQuiet P l.toArray C (fun a'=>∀ w',C w'→wpAny P .any l.toArray Q (l.toArray.size - n) T a' w') (l.take n) a):(Code.region id l.toArray true).wp P Q a w:=by
 simp only [lexThenB,Bool.and_eq_true,decide_eq_true_eq,List.all_eq_true] at hB
 obtain ⟨⟨⟨⟨⟨hsel,hn⟩,hs⟩,hc⟩,hT⟩,hlex⟩:=hB
 have hn':n<l.length:=by simpa using hn
 have htl:(l.take n).length=n:=by simp;omega
 have inv0:HeadInv .any l.toArray n (Array.replicate l.toArray.size false):=
  ⟨by simp,fun j oj _ hl=>(by rw [getD_replicate_false] at hl;cases hl),fun t _ ht=>getD_in (by simpa using ht) (getD_replicate_false _ _)⟩
 have H:=headAny_lex2 (md:=.any) hsel hs hc hT (l.take n) 0 _ a (fun j hj=>by
  have hj':j<n:=by rw [htl] at hj;exact hj
  simp [hj']) (by simpa using htl) inv0 (by rw [htl];exact hlex) h
 refine wp_region_any hm ?_
 have fin:=wpAny_of_headAny (Q':=Q) (g:=l.toArray.size - n) (fun listed a' w' hw' hL=>by rw [hL.1];exact hL.2 w' hw') _ _ _ _ hC H
 rwa [htl,show n+(l.toArray.size - n)=l.toArray.size by omega] at fin
end
end Go.Proofs.YtnaebigoknfndaaGreatDoor
namespace Go.Proofs.YtnaebigoknfndaaGreatDoor
open Go.RowKit
theorem byts_ext (s:ByteArray) (a b:Nat):byts (s.extract a b)=((byts s).take b).drop a:=by
 unfold byts
 rw [ByteArray.data_extract,Array.toList_extract,List.extract_eq_take_drop,← List.map_take,← List.map_drop,List.drop_take]
theorem makes_beat {o:Oper} (h:o.op=.alloc 183) (hg:o.guard=none):Makes Tryz.prog o #[.string ⟨#[]⟩,.int .i64 0,.int .i64 0] 183:=
 ⟨hg,fun ev w=>by unfold execOp;rw [h];simp [go_sem]⟩
theorem decode_bad (s:ByteArray) (n:Nat) (w:World) (hm:s.size≤9223372036854775807) (h:decE (byts s)=n) (h0:n≠0) :
  Calls Tryz.prog 151 #[.string s] w fun e w'=>e=.returned (.tuple #[.agg #[.string ⟨#[]⟩,.int .i64 0,.int .i64 0],.int .i64 n])∧Below w.heap.size w w':=by
 have qa:=alloc_cells
 have qf:=alloc_frozens
 by_cases c0:s.size<2
 ·obtain rfl:8=n:=by rw [← h];unfold decE;rw [if_pos (by rw [byts_len];exact c0)]
  have c0':(s.size:Int)<2:=by omega
  clear h h0
  go_enter Tryz.func151,Tryz.ntmps151
  go_wp2_with fail
  refine bodyPost_ret (v:=.tuple #[.agg #[.string ⟨#[]⟩,.int .i64 0,.int .i64 0],.int .i64 8]) (by simp [results,Tryz.f151,go_sem,↓IntWalk.iteOmega, *]) rfl ?_
  exact ⟨rfl,(by repeat (first | (with_reducible exact Below.refl _ _) | (with_reducible refine bAl ?_ _) | (with_reducible refine bSc ?_ _) | (with_reducible refine Below.drew ?_) | (refine Below.trans ?_ (by assumption))))⟩
 ·have l0:0<s.size:=by omega
  have l1:1<s.size:=by omega
  obtain ⟨x,hx⟩:∃ x:UInt8,s[0]'l0=x:=⟨_,rfl⟩
  obtain ⟨y,hy⟩:∃ x:UInt8,s[1]'l1=x:=⟨_,rfl⟩
  have xb:=UInt8.toNat_lt x
  have yb:=UInt8.toNat_lt y
  obtain ⟨X,hX⟩:∃ X,x.toNat=X:=⟨_,rfl⟩
  obtain ⟨Y,hY⟩:∃ X,y.toNat=X:=⟨_,rfl⟩
  rw [hX] at xb
  rw [hY] at yb
  have g0:(byts s).getD 0 0=X:=by rw [byts_get s l0,hx,hX]
  have g1:(byts s).getD 1 0=Y:=by rw [byts_get s l1,hy,hY]
  have wy:IntKind.i64.wrap (Y:Int)=Y:=IntWalk.i64_in _ (by omega)
  have k0:(0:Int)<s.size:=by omega
  have k1:(1:Int)<s.size:=by omega
  have k2:¬ (s.size:Int)<2:=by omega
  unfold decE at h
  rw [g0,g1,byts_len,if_neg c0] at h
  clear g0 g1
  by_cases c1:X=72
  ·by_cases c2:Y<1
   ·obtain rfl:3=n:=by rw [← h,if_pos (by omega)]
    have d1:((X:Int)==72)=true:=by rw [c1];rfl
    have d2:((X:Int) != 72)=false:=by rw [c1];rfl
    have d3:(Y:Int)<1:=by omega
    clear h h0 c0 c1 c2
    go_enter Tryz.func151,Tryz.ntmps151
    go_wp2_with fail
    refine bodyPost_ret (v:=.tuple #[.agg #[.string ⟨#[]⟩,.int .i64 0,.int .i64 0],.int .i64 3]) (by simp [results,Tryz.f151,go_sem,↓IntWalk.iteOmega, *]) rfl ?_
    exact ⟨rfl,(by repeat (first | (with_reducible exact Below.refl _ _) | (with_reducible refine bAl ?_ _) | (with_reducible refine bSc ?_ _) | (with_reducible refine Below.drew ?_) | (refine Below.trans ?_ (by assumption))))⟩
   ·by_cases c3:8<Y
    ·obtain rfl:3=n:=by rw [← h,if_pos (by omega)]
     have d1:((X:Int)==72)=true:=by rw [c1];rfl
     have d2:((X:Int) != 72)=false:=by rw [c1];rfl
     have d3:¬ (Y:Int)<1:=by omega
     have d4:(8:Int)<Y:=by omega
     clear h h0 c0 c1 c2
     go_enter Tryz.func151,Tryz.ntmps151
     go_wp2_with fail
     refine bodyPost_ret (v:=.tuple #[.agg #[.string ⟨#[]⟩,.int .i64 0,.int .i64 0],.int .i64 3]) (by simp [results,Tryz.f151,go_sem,↓IntWalk.iteOmega, *]) rfl ?_
     exact ⟨rfl,(by repeat (first | (with_reducible exact Below.refl _ _) | (with_reducible refine bAl ?_ _) | (with_reducible refine bSc ?_ _) | (with_reducible refine Below.drew ?_) | (refine Below.trans ?_ (by assumption))))⟩
    ·rw [if_neg (by omega)] at h
     have d1:((X:Int)==72)=true:=by rw [c1];rfl
     have d2:((X:Int) != 72)=false:=by rw [c1];rfl
     have d3:¬ (Y:Int)<1:=by omega
     have d4:¬ (8:Int)<Y:=by omega
     have w14:IntKind.i64.wrap (14+(Y:Int))=((14+Y:Nat):Int):=IntWalk.i64_in _ (by omega)
     by_cases c4:s.size<14+Y
     ·obtain rfl:8=n:=by rw [← h,if_pos c4]
      have d5:(s.size:Int)<((14+Y:Nat):Int):=by omega
      clear h h0 c0 c1 c2
      go_enter Tryz.func151,Tryz.ntmps151
      go_wp2_with fail
      refine bodyPost_ret (v:=.tuple #[.agg #[.string ⟨#[]⟩,.int .i64 0,.int .i64 0],.int .i64 8]) (by simp [results,Tryz.f151,go_sem,↓IntWalk.iteOmega, *]) rfl ?_
      exact ⟨rfl,(by repeat (first | (with_reducible exact Below.refl _ _) | (with_reducible refine bAl ?_ _) | (with_reducible refine bSc ?_ _) | (with_reducible refine Below.drew ?_) | (refine Below.trans ?_ (by assumption))))⟩
     ·rw [if_neg c4] at h
      have d5:¬ (s.size:Int)<((14+Y:Nat):Int):=by omega
      by_cases c5:14+Y<s.size
      ·obtain rfl:3=n:=by rw [← h,if_pos c5]
       have d6:((14+Y:Nat):Int)<(s.size:Int):=by omega
       clear h h0 c0 c1 c2
       go_enter Tryz.func151,Tryz.ntmps151
       go_wp2_with fail
       refine bodyPost_ret (v:=.tuple #[.agg #[.string ⟨#[]⟩,.int .i64 0,.int .i64 0],.int .i64 3]) (by simp [results,Tryz.f151,go_sem,↓IntWalk.iteOmega, *]) rfl ?_
       exact ⟨rfl,(by repeat (first | (with_reducible exact Below.refl _ _) | (with_reducible refine bAl ?_ _) | (with_reducible refine bSc ?_ _) | (with_reducible refine Below.drew ?_) | (refine Below.trans ?_ (by assumption))))⟩
      ·rw [if_neg c5] at h
       have d6:¬ ((14+Y:Nat):Int)<(s.size:Int):=by omega
       have w10:IntKind.i64.wrap (10+(Y:Int))=((10+Y:Nat):Int):=IntWalk.i64_in _ (by omega)
       obtain ⟨p,hp⟩:∃ p,crcOf ((byts s).take (10+Y))=p:=⟨_,rfl⟩
       obtain ⟨q,hq⟩:∃ q,numL ((byts s).drop (10+Y))=q:=⟨_,rfl⟩
       rw [hp,hq] at h
       have hpq:¬ p=q:=fun e=>h0 (by rw [← h,if_neg (by simpa using e)])
       rw [if_pos hpq] at h
       subst h
       have dpq:((p:Int) != (q:Int))=true:=by simp;omega
       have dpq':((p:Int)==(q:Int))=false:=by simp;omega
       have z1:(s.extract 0 (10+Y)).size=10+Y:=by rw [ByteArray.size_extract];omega
       have z2:(s.extract (10+Y) s.size).size=4:=by rw [ByteArray.size_extract];omega
       have C1:=Lib.hid (fun w'=>crc_ok (s.extract 0 (10+Y)) p w' (by omega) (by rw [byts_ext,List.drop_zero];exact hp))
       have N1:=fun w'=>number_ok (s.extract (10+Y) s.size) w' (by omega) (by omega)
       have e2:byts (s.extract (10+Y) s.size)=(byts s).drop (10+Y):=by rw [byts_ext,List.take_of_length_le (by rw [byts_len];omega)]
       rw [e2,hq] at N1
       have NN:=Lib.hid N1
       have d7:((10+Y:Nat):Int)≤s.size:=by omega
       have d8:(0:Int)≤((10+Y:Nat):Int):=by omega
       clear h0 c0 c1 c2 N1 e2 hp hq hpq
       go_enter Tryz.func151,Tryz.ntmps151
       go_wp2_with fail
       refine (C1.out _).mono ?_
       rintro e w1 ⟨rfl,hb1⟩
       have z1:=hb1.size
       have c1:=Below.cells hb1
       have f1:=Below.frozens hb1
       try simp only [World.size_alloc,World.size_setCell,World.size_drew] at z1 c1 f1
       go_wp2_with fail
       refine (NN.out _).mono ?_
       rintro e w2 ⟨rfl,hb2⟩
       have z2:=hb2.size
       have c2:=Below.cells hb2
       have f2:=Below.frozens hb2
       try simp only [World.size_alloc,World.size_setCell,World.size_drew] at z2 c2 f2
       go_wp2_with fail
       refine bodyPost_ret (v:=.tuple #[.agg #[.string ⟨#[]⟩,.int .i64 0,.int .i64 0],.int .i64 9]) (by simp [results,Tryz.f151,go_sem,↓IntWalk.iteOmega, *]) rfl ?_
       exact ⟨rfl,(by repeat (first | (with_reducible exact Below.refl _ _) | (with_reducible refine bAl ?_ _) | (with_reducible refine bSc ?_ _) | (with_reducible refine Below.drew ?_) | (with_reducible refine bTm ?_ hb2) | (with_reducible refine bTm ?_ hb1)))⟩
  ·obtain rfl:3=n:=by rw [← h,if_pos (by omega)]
   have d1:((X:Int)==72)=false:=by simp;omega
   have d2:((X:Int) != 72)=true:=by simp;omega
   clear h h0 c0 c1
   go_enter Tryz.func151,Tryz.ntmps151
   go_wp2_with fail
   refine bodyPost_ret (v:=.tuple #[.agg #[.string ⟨#[]⟩,.int .i64 0,.int .i64 0],.int .i64 3]) (by simp [results,Tryz.f151,go_sem,↓IntWalk.iteOmega, *]) rfl ?_
   exact ⟨rfl,(by repeat (first | (with_reducible exact Below.refl _ _) | (with_reducible refine bAl ?_ _) | (with_reducible refine bSc ?_ _) | (with_reducible refine Below.drew ?_) | (refine Below.trans ?_ (by assumption))))⟩
end Go.Proofs.YtnaebigoknfndaaGreatDoor
namespace Go.Proofs.YtnaebigoknfndaaGreatDoor
open Go.RowKit
theorem dec_zero {l:List Nat} (h:decE l=0):¬ l.length<2∧l.getD 0 0=72∧1≤l.getD 1 0∧l.getD 1 0≤8∧l.length=14+l.getD 1 0∧crcOf (l.take (10+l.getD 1 0))=numL (l.drop (10+l.getD 1 0)):=by
 unfold decE at h
 split at h
 ·cases h
 ·split at h
  ·cases h
  ·split at h
   ·cases h
   ·split at h
    ·cases h
    ·split at h
     ·cases h
     ·rename_i h1 h2 h3 h4 h5
      exact ⟨h1,by omega,by omega,by omega,by omega,Decidable.of_not_not h5⟩
theorem decode_mid (s:ByteArray) (n:Int) (w:World) (h:decE (byts s)=0)
  (hc:∀ w',Calls Tryz.prog 174 #[.agg #[.string (s.extract 2 (2+(byts s).getD 1 0)),.int .i64 (decI (byts s)),.int .i64 (decS (byts s))]] w' fun e w''=>e=.returned (.int .i64 n)∧Below w'.heap.size w' w'') :
  Calls Tryz.prog 151 #[.string s] w fun e w'=>e=.returned (.tuple #[if n=0 then .agg #[.string (s.extract 2 (2+(byts s).getD 1 0)),.int .i64 (decI (byts s)),.int .i64 (decS (byts s))] else .agg #[.string ⟨#[]⟩,.int .i64 0,.int .i64 0],.int .i64 (if n=0 then 0 else 3)])∧Below w.heap.size w w':=by
 have qa:=alloc_cells
 have qf:=alloc_frozens
 obtain ⟨c0,g0,g1,g2,g3,g4⟩:=dec_zero h
 clear h
 rw [byts_len] at c0 g3
 have l0:0<s.size:=by omega
 have l1:1<s.size:=by omega
 obtain ⟨x,hx⟩:∃ x:UInt8,s[0]'l0=x:=⟨_,rfl⟩
 obtain ⟨y,hy⟩:∃ x:UInt8,s[1]'l1=x:=⟨_,rfl⟩
 obtain ⟨Y,hY⟩:∃ X,y.toNat=X:=⟨_,rfl⟩
 have e0:(byts s).getD 0 0=x.toNat:=by rw [byts_get s l0,hx]
 have e1:(byts s).getD 1 0=Y:=by rw [byts_get s l1,hy,hY]
 have hX:x.toNat=72:=by rw [← e0,g0]
 have hdI:decI (byts s)=numL ((byts s).drop (2+Y)):=by unfold decI;rw [e1]
 have hdS:decS (byts s)=numL ((byts s).drop (6+Y)):=by unfold decS;rw [e1]
 rw [e1] at g1 g2 g3 g4 hc ⊢
 clear e0 e1 g0
 obtain ⟨I,hI⟩:∃ I,decI (byts s)=I:=⟨_,rfl⟩
 obtain ⟨S,hS⟩:∃ I,decS (byts s)=I:=⟨_,rfl⟩
 rw [hI] at hc hdI ⊢
 rw [hS] at hc hdS ⊢
 obtain ⟨p,hp⟩:∃ p,crcOf ((byts s).take (10+Y))=p:=⟨_,rfl⟩
 have hq:numL ((byts s).drop (10+Y))=p:=by rw [← g4,hp]
 have wy:IntKind.i64.wrap (Y:Int)=Y:=IntWalk.i64_in _ (by omega)
 have k0:(0:Int)<s.size:=by omega
 have k1:(1:Int)<s.size:=by omega
 have k2:¬ (s.size:Int)<2:=by omega
 have d3:¬ (Y:Int)<1:=by omega
 have d4:¬ (8:Int)<Y:=by omega
 have w14:IntKind.i64.wrap (14+(Y:Int))=((14+Y:Nat):Int):=IntWalk.i64_in _ (by omega)
 have d5:¬ (s.size:Int)<((14+Y:Nat):Int):=by omega
 have d6:¬ ((14+Y:Nat):Int)<(s.size:Int):=by omega
 have w10:IntKind.i64.wrap (10+(Y:Int))=((10+Y:Nat):Int):=IntWalk.i64_in _ (by omega)
 have w2:IntKind.i64.wrap (2+(Y:Int))=((2+Y:Nat):Int):=IntWalk.i64_in _ (by omega)
 have w6:IntKind.i64.wrap (6+(Y:Int))=((6+Y:Nat):Int):=IntWalk.i64_in _ (by omega)
 have C1:=Lib.hid (fun w'=>crc_ok (s.extract 0 (10+Y)) p w' (by rw [ByteArray.size_extract];omega) (by rw [byts_ext,List.drop_zero];exact hp))
 have ex:∀ k,byts (s.extract k s.size)=(byts s).drop k:=fun k=>by rw [byts_ext,List.take_of_length_le (by rw [byts_len];omega)]
 have hN:∀ k q,k+4≤s.size→numL ((byts s).drop k)=q→∀ w',Calls Tryz.prog 178 #[.string (s.extract k s.size)] w' fun e w''=>e=.returned (.int .i64 q)∧Below w'.heap.size w' w'':=fun k q hk hq w'=>by
  have:=number_ok (s.extract k s.size) w' (by rw [ByteArray.size_extract];omega) (by rw [ByteArray.size_extract];omega)
  rwa [ex,hq] at this
 have N0:=Lib.hid (hN (10+Y) p (by omega) hq)
 have N1:=Lib.hid (hN (2+Y) I (by omega) hdI.symm)
 have N2:=Lib.hid (hN (6+Y) S (by omega) hdS.symm)
 have HC:=Lib.hid hc
 have d7:((10+Y:Nat):Int)≤s.size:=by omega
 have d8:(0:Int)≤((10+Y:Nat):Int):=by omega
 have d9:((2+Y:Nat):Int)≤s.size:=by omega
 have d10:(0:Int)≤((2+Y:Nat):Int):=by omega
 have d11:((6+Y:Nat):Int)≤s.size:=by omega
 have d12:(0:Int)≤((6+Y:Nat):Int):=by omega
 have d13:(2:Int)≤((2+Y:Nat):Int):=by omega
 clear hN ex hc hdI hdS hI hS hp hq g1 g2 g3 g4 c0
 by_cases hn:n=0
 ·subst hn
  rw [if_pos rfl,if_pos rfl]
  go_enter Tryz.func151,Tryz.ntmps151
  go_wp2_with fail
  refine (C1.out _).mono ?_
  rintro e w1 ⟨rfl,hb1⟩
  have z1:=hb1.size
  have c1:=Below.cells hb1
  have f1:=Below.frozens hb1
  try simp only [World.size_alloc,World.size_setCell,World.size_drew] at z1 c1 f1
  go_wp2_with fail
  refine (N0.out _).mono ?_
  rintro e w2 ⟨rfl,hb2⟩
  have z2:=hb2.size
  have c2:=Below.cells hb2
  have f2:=Below.frozens hb2
  try simp only [World.size_alloc,World.size_setCell,World.size_drew] at z2 c2 f2
  go_wp2_with fail
  refine wp_region_rest 15 (by kernel_rfl) (by kernel_rfl) ?_
  simp only [List.take_succ_cons,List.take_zero,List.drop_succ_cons,List.drop_zero]
  repeat (first | (refine wpMild_skip rfl ?_) | (refine wpMild_step rfl (fun K hK=>?_);apply Exists.intro;refine ⟨fun w2 h2=>?_,?_⟩;(next=>(have h2':=Below.undrew h2;have g1:=Below.cells h2';have g2:=Below.frozens h2';(try simp only [World.size_alloc,World.size_setCell] at g1 g2);clear h2 h2';unfold mildAt;first | (go_simp;simp only [mildUpon,true_and];(first | (go_at_call 178;first | (with_reducible exact N1.out _) | (with_reducible exact N2.out _)))) | (simp [mildUpon,go_sem,↓IntWalk.iteOmega, *];done) | (simp [mildUpon,go_sem,↓IntWalk.iteOmega, *];(try go_ints);rfl))));(go_simp;refine hK _ ?_;clear hK K))
  refine wpMild_nil ?_
  refine rest_make _ _ rfl (makes_beat rfl rfl) (fun b3 _=>?_)
  rw [oneBlock_of]
  go_simp
  refine rest_tail ?_ rfl rfl (fun w2 hw2=>?_) ?_
  rotate_left
  next=>
   obtain ⟨d2,e2⟩:=block_cells hw2.one.2
   unfold tailAt
   simp [tailUpon,go_sem,↓IntWalk.iteOmega, *]
   exact (((hw2).one_set 0 _).one_set 1 _).one_set 2 _
  repeat (first | (refine rest_nil ?_) | (refine rest_mild rfl (fun K hK=>?_);apply Exists.intro;refine ⟨fun w2 h2=>?_,?_⟩;(next=>(unfold mildAt;first | (simp [mildUpon,go_sem];done) | (simp [mildUpon,go_sem];rfl)));(go_simp;refine hK _ ?_;clear hK K)))
  intro w3 st3
  have hb3:=Below.undrew st3.below
  obtain ⟨lo3,blk3⟩:=st3.one
  have up3:=st3.one_lt
  obtain ⟨d3,e3⟩:=block_cells blk3
  clear st3 blk3
  try simp only [World.size_alloc,World.size_setCell,World.size_drew] at lo3
  have z3:=hb3.size
  have c3:=Below.cells hb3
  have f3:=Below.frozens hb3
  try simp only [World.size_alloc,World.size_setCell,World.size_drew] at z3 c3 f3
  go_wp2_with fail
  refine (HC.out _).mono ?_
  rintro e w4 ⟨rfl,hb4⟩
  have z4:=hb4.size
  have c4:=Below.cells hb4
  have f4:=Below.frozens hb4
  try simp only [World.size_alloc,World.size_setCell,World.size_drew] at z4 c4 f4
  go_wp2_with fail
  refine bodyPost_ret (v:=.tuple #[.agg #[.string (s.extract 2 (2+Y)),.int .i64 I,.int .i64 S],.int .i64 0]) (by simp [results,Tryz.f151,go_sem,↓IntWalk.iteOmega, *]) rfl ?_
  exact ⟨rfl,(by repeat (first | (with_reducible exact Below.refl _ _) | (with_reducible refine bAl ?_ _) | (with_reducible refine bSc ?_ _) | (with_reducible refine Below.drew ?_) | (with_reducible refine bTm ?_ hb4) | (with_reducible refine bTm ?_ hb3) | (with_reducible refine bTm ?_ hb2) | (with_reducible refine bTm ?_ hb1)))⟩
 ·rw [if_neg hn,if_neg hn]
  have hne:(n==0)=false:=by simpa using hn
  have hne2:(n != 0)=true:=by simpa using hn
  go_enter Tryz.func151,Tryz.ntmps151
  go_wp2_with fail
  refine (C1.out _).mono ?_
  rintro e w1 ⟨rfl,hb1⟩
  have z1:=hb1.size
  have c1:=Below.cells hb1
  have f1:=Below.frozens hb1
  try simp only [World.size_alloc,World.size_setCell,World.size_drew] at z1 c1 f1
  go_wp2_with fail
  refine (N0.out _).mono ?_
  rintro e w2 ⟨rfl,hb2⟩
  have z2:=hb2.size
  have c2:=Below.cells hb2
  have f2:=Below.frozens hb2
  try simp only [World.size_alloc,World.size_setCell,World.size_drew] at z2 c2 f2
  go_wp2_with fail
  refine wp_region_rest 15 (by kernel_rfl) (by kernel_rfl) ?_
  simp only [List.take_succ_cons,List.take_zero,List.drop_succ_cons,List.drop_zero]
  repeat (first | (refine wpMild_skip rfl ?_) | (refine wpMild_step rfl (fun K hK=>?_);apply Exists.intro;refine ⟨fun w2 h2=>?_,?_⟩;(next=>(have h2':=Below.undrew h2;have g1:=Below.cells h2';have g2:=Below.frozens h2';(try simp only [World.size_alloc,World.size_setCell] at g1 g2);clear h2 h2';unfold mildAt;first | (go_simp;simp only [mildUpon,true_and];(first | (go_at_call 178;first | (with_reducible exact N1.out _) | (with_reducible exact N2.out _)))) | (simp [mildUpon,go_sem,↓IntWalk.iteOmega, *];done) | (simp [mildUpon,go_sem,↓IntWalk.iteOmega, *];(try go_ints);rfl))));(go_simp;refine hK _ ?_;clear hK K))
  refine wpMild_nil ?_
  refine rest_make _ _ rfl (makes_beat rfl rfl) (fun b3 _=>?_)
  rw [oneBlock_of]
  go_simp
  refine rest_tail ?_ rfl rfl (fun w2 hw2=>?_) ?_
  rotate_left
  next=>
   obtain ⟨d2,e2⟩:=block_cells hw2.one.2
   unfold tailAt
   simp [tailUpon,go_sem,↓IntWalk.iteOmega, *]
   exact (((hw2).one_set 0 _).one_set 1 _).one_set 2 _
  repeat (first | (refine rest_nil ?_) | (refine rest_mild rfl (fun K hK=>?_);apply Exists.intro;refine ⟨fun w2 h2=>?_,?_⟩;(next=>(unfold mildAt;first | (simp [mildUpon,go_sem];done) | (simp [mildUpon,go_sem];rfl)));(go_simp;refine hK _ ?_;clear hK K)))
  intro w3 st3
  have hb3:=Below.undrew st3.below
  obtain ⟨lo3,blk3⟩:=st3.one
  have up3:=st3.one_lt
  obtain ⟨d3,e3⟩:=block_cells blk3
  clear st3 blk3
  try simp only [World.size_alloc,World.size_setCell,World.size_drew] at lo3
  have z3:=hb3.size
  have c3:=Below.cells hb3
  have f3:=Below.frozens hb3
  try simp only [World.size_alloc,World.size_setCell,World.size_drew] at z3 c3 f3
  go_wp2_with fail
  refine (HC.out _).mono ?_
  rintro e w4 ⟨rfl,hb4⟩
  have z4:=hb4.size
  have c4:=Below.cells hb4
  have f4:=Below.frozens hb4
  try simp only [World.size_alloc,World.size_setCell,World.size_drew] at z4 c4 f4
  go_wp2_with fail
  refine bodyPost_ret (v:=.tuple #[.agg #[.string ⟨#[]⟩,.int .i64 0,.int .i64 0],.int .i64 3]) (by simp [results,Tryz.f151,go_sem,↓IntWalk.iteOmega, *]) rfl ?_
  exact ⟨rfl,(by repeat (first | (with_reducible exact Below.refl _ _) | (with_reducible refine bAl ?_ _) | (with_reducible refine bSc ?_ _) | (with_reducible refine Below.drew ?_) | (with_reducible refine bTm ?_ hb4) | (with_reducible refine bTm ?_ hb3) | (with_reducible refine bTm ?_ hb2) | (with_reducible refine bTm ?_ hb1)))⟩
end Go.Proofs.YtnaebigoknfndaaGreatDoor
namespace Go.Proofs.YtnaebigoknfndaaGreatDoor
open Go.RowKit
theorem decode_enc (s:ByteArray) (i q:Nat) (w:World) (h:BOK (byts s) i q) :
  Calls Tryz.prog 151 #[.string (mkB (encL (byts s) i q))] w fun e w'=>e=.returned (.tuple #[.agg #[.string s,.int .i64 i,.int .i64 q],.int .i64 0])∧Below w.heap.size w w':=by
 obtain ⟨d0,d1,d2,d3⟩:=dec_enc h
 obtain ⟨hid,hi,hq1,hq2⟩:=h
 have hbb:byts (mkB (encL (byts s) i q))=encL (byts s) i q:=byts_mkB (encL_bytes hid)
 have g1:(encL (byts s) i q).getD 1 0=(byts s).length:=by simp [encL,plainL,List.getD]
 have ei:(mkB (encL (byts s) i q)).extract 2 (2+(byts s).length)=s:=by
  rw [← mkB_byts ((mkB (encL (byts s) i q)).extract 2 (2+(byts s).length)),byts_ext,hbb]
  have:((encL (byts s) i q).take (2+(byts s).length)).drop 2=byts s:=by
   rw [List.drop_take,show 2+(byts s).length - 2=(byts s).length by omega]
   have:=d1
   unfold decId at this
   rwa [g1] at this
  rw [this,mkB_byts]
 have:=decode_mid (mkB (encL (byts s) i q)) 0 w (by rw [hbb];exact d0) (fun w'=>by
  rw [hbb,g1,d2,d3,ei]
  exact bcheck_ok s i q w' hid (by omega) (by omega))
 rw [hbb,g1,d2,d3,ei,if_pos rfl,if_pos rfl] at this
 exact this
end Go.Proofs.YtnaebigoknfndaaGreatDoor

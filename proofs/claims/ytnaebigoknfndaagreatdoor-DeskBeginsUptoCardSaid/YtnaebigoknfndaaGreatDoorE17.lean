/- What the desk's two laws lean on: part 17 (contracts and plain laws; their conditions stand in each). -/
import Derived.Test.YtnaebigoknfndaaGreatDoorE01
import Derived.Test.YtnaebigoknfndaaGreatDoorE16
import Derived.Test.YtnaebigoknfndaaGreatDoorE09
import Derived.RegionTactic
import Derived.BigRegion
import Derived.Test.YtnaebigoknfndaaGreatDoorE06
import Derived.Lib.ItoaLen
import Derived.Test.YtnaebigoknfndaaGreatDoorE13
import Derived.Test.YtnaebigoknfndaaGreatDoorE04
import Derived.Lib.FrozenHead
import Derived.Maps.AppendAt
import Derived.Recover
set_option linter.unusedVariables false
set_option linter.unusedSimpArgs false
set_option maxRecDepth 100000
set_option maxHeartbeats 20000000
namespace Go.Proofs.YtnaebigoknfndaaGreatDoor
open Go.RowKit
theorem makes_wd {o:Oper} (h:o.op=.alloc 66) (hg:o.guard=none):Makes Tryz.prog o #[.int .u64 0,.int .u64 0] 66:=
 ⟨hg,fun ev w=>by unfold execOp;rw [h];simp [go_sem]⟩
theorem cmp_ge (a b:Int) {ah al bh bl:Int} (ha:Wd a ah al) (hb:Wd b bh bl) (h:b≤a):∃ z:Int,0≤z∧∀ w,Calls Tryz.prog 103 #[.agg #[.int .u64 ah,.int .u64 al],.agg #[.int .u64 bh,.int .u64 bl]] w fun e w'=>e=.returned (.int .i64 z)∧Below w.heap.size w w':=by
 rcases (by omega:b=a∨b<a) with rfl | c
 ·exact ⟨0,by omega,fun w=>cmp_eq b ha hb w⟩
 ·exact ⟨1,by omega,fun w=>cmp_gt a b ha hb c w⟩
theorem div_zero (a:Int) (w:World) :
  Calls Tryz.prog 44 #[.agg #[.int .u64 (hi a),.int .u64 (lo a)],.agg #[.int .u64 0,.int .u64 0]] w fun e w'=>
   e=.returned (.tuple #[.agg #[.int .u64 0,.int .u64 0],.agg #[.int .u64 0,.int .u64 0],.int .i64 6])∧Below w.heap.size w w':=by
 go_enter Tryz.func44,Tryz.ntmps44
 go_wp2_with fail
 refine bodyPost_ret (v:=.tuple #[.agg #[.int .u64 0,.int .u64 0],.agg #[.int .u64 0,.int .u64 0],.int .i64 6]) (by simp [results,Tryz.results44,go_sem]) rfl ?_
 exact ⟨rfl,(by repeat (first | (with_reducible exact Below.refl _ _) | (with_reducible refine bAl ?_ _) | (with_reducible refine bSc ?_ _) | (with_reducible refine Below.drew ?_) | (refine Below.trans ?_ (by assumption))))⟩
theorem div_less (a b:Int) {ah al bh bl:Int} (ha:Wd a ah al) (hb:Wd b bh bl) (h:a<b) (w:World) :
  Calls Tryz.prog 44 #[.agg #[.int .u64 ah,.int .u64 al],.agg #[.int .u64 bh,.int .u64 bl]] w fun e w'=>
   e=.returned (.tuple #[.agg #[.int .u64 0,.int .u64 0],.agg #[.int .u64 ah,.int .u64 al],.int .i64 0])∧Below w.heap.size w w':=by
 have hn:(¬ bh=0)∨(bh=0∧¬ bl=0):=by
  obtain ⟨a1,rfl,rfl⟩:=ha
  obtain ⟨b1,rfl,rfl⟩:=hb
  unfold U128 hi lo at *;omega
 obtain ⟨z,hz,hc⟩:∃ z:Int,z<0∧∀ w,Calls Tryz.prog 103 #[.agg #[.int .u64 ah,.int .u64 al],.agg #[.int .u64 bh,.int .u64 bl]] w fun e w'=>e=.returned (.int .i64 z)∧Below w.heap.size w w':=⟨-1,by omega,fun w=>cmp_lt a b ha hb h w⟩
 have hzd:decide (z<0)=true:=by simpa using hz
 clear ha hb h
 have qa:=alloc_cells
 have qf:=alloc_frozens
 rcases hn with hn | ⟨rfl,hn⟩
 all_goals
  have HC:=Lib.hid hc
  clear hc
  go_enter Tryz.func44,Tryz.ntmps44
  go_wp2_with fail
  refine (HC.out _).mono ?_
  rintro e w1 ⟨rfl,hb1⟩
  have z1:=hb1.size
  have c1:=Below.cells hb1
  have f1:=Below.frozens hb1
  try simp only [World.size_alloc,World.size_setCell,World.size_drew] at z1 c1 f1
  go_wp2_with fail
  go_region
  all_goals go_wp2_with fail
  refine bodyPost_ret (v:=.tuple #[.agg #[.int .u64 0,.int .u64 0],.agg #[.int .u64 ah,.int .u64 al],.int .i64 0]) (by simp [results,Tryz.results44,go_sem,↓IntWalk.iteOmega, *]) rfl ?_
  exact ⟨rfl,(by repeat (first | (with_reducible exact Below.refl _ _) | (with_reducible refine bAl ?_ _) | (with_reducible refine bSc ?_ _) | (with_reducible refine Below.drew ?_) | (with_reducible refine bTm ?_ hb2) | (with_reducible refine bTm ?_ hb1)))⟩
theorem div_low (a b q r:Int) (ha:U128 a) (hb:U64 b) (h0:0<b) (h:b≤a) (hq:a / b=q) (hr:a % b=r) (w:World) :
  Calls Tryz.prog 44 #[.agg #[.int .u64 (hi a),.int .u64 (lo a)],.agg #[.int .u64 0,.int .u64 b]] w fun e w'=>
   e=.returned (.tuple #[.agg #[.int .u64 (hi q),.int .u64 (lo q)],.agg #[.int .u64 0,.int .u64 r],.int .i64 0])∧Below w.heap.size w w':=by
 have hne:¬ b=0:=by omega
 obtain ⟨z,hz,hc⟩:=cmp_ge a b (Wd.mk ha) (Wd.lit hb) h
 have hzd:decide (z<0)=false:=by simp;omega
 have b1:=Int.ediv_nonneg ha.hi.1 (show 0≤b by omega)
 have b2:=Int.ediv_le_self b ha.hi.1
 have b3:=Int.emod_nonneg (hi a) hne
 have b4:=Int.emod_lt_of_pos (hi a) h0
 have u1:=ha.hi
 have u2:=ha.lo
 obtain ⟨g,hg⟩:∃ g,hi a / b=g:=⟨_,rfl⟩
 obtain ⟨k,hk⟩:∃ k,hi a % b=k:=⟨_,rfl⟩
 obtain ⟨m,hm⟩:∃ m,(k * 18446744073709551616+lo a) / b=m:=⟨_,rfl⟩
 rw [hg] at b1 b2
 rw [hk] at b3 b4
 have hd:=Int.emod_add_mul_ediv (hi a) b
 have ea:a=(k * 18446744073709551616+lo a)+b * (g * 18446744073709551616):=by
  rw [hg,hk] at hd
  have e1:b * (g * 18446744073709551616)=b * g * 18446744073709551616:=by grind
  have e2:a=hi a * 18446744073709551616+lo a:=by unfold hi lo;omega
  omega
 have hqq:q=g * 18446744073709551616+m:=by rw [← hq,ea,Int.add_mul_ediv_left _ _ hne,hm];omega
 have hrr:(k * 18446744073709551616+lo a) % b=r:=by rw [← hr];conv=>rhs;rw [ea,Int.add_mul_emod_self_left]
 have mb:0≤m∧m<18446744073709551616:=by
  rw [← hm]
  refine ⟨Int.ediv_nonneg (by have:=u2.1;omega) (by omega),Int.ediv_lt_of_lt_mul h0 ?_⟩
  unfold U64 at u2;omega
 have hq1:hi q=g:=by rw [hqq];unfold hi;omega
 have hq2:lo q=m:=by rw [hqq];unfold lo;omega
 have uk:U64 k:=by unfold U64 at *;omega
 have hdv:=fun w=>div64_ok k (lo a) b m r uk u2 hb b4 hm hrr w
 rw [hq1,hq2]
 unfold U64 at u1 u2 hb
 have t1:(hi a).tdiv b=g:=by rw [Int.tdiv_eq_ediv_of_nonneg u1.1,hg]
 have t2:(hi a).tmod b=k:=by rw [Int.tmod_eq_emod_of_nonneg u1.1,hk]
 have t3:IntKind.u64.wrap g=g:=by rw [IntKind.wrap_u64];omega
 have t4:IntKind.u64.wrap k=k:=by rw [IntKind.wrap_u64];omega
 have HC:=Lib.hid hc
 have HD:=Lib.hid hdv
 clear hc hdv ha h hq hr hd ea hqq hrr hq1 hq2 hm mb uk
 have qa:=alloc_cells
 have qf:=alloc_frozens
 go_enter Tryz.func44,Tryz.ntmps44
 go_wp2_with fail
 refine (HC.out _).mono ?_
 rintro e w1 ⟨rfl,hb1⟩
 have z1:=hb1.size
 have c1:=Below.cells hb1
 have f1:=Below.frozens hb1
 try simp only [World.size_alloc,World.size_setCell,World.size_drew] at z1 c1 f1
 go_wp2_with fail
 refine wp_region_quiet_all (Ext _) (by kernel_rfl) (by kernel_rfl) (Ext.drawn _) ?_
 repeat (first | go_big_quiet_skip | go_big_quiet_step (fail) | (refine BigFrame.wpQuiet_want rfl (fun K hK=>?_);apply Exists.intro;refine ⟨fun w2 h2=>?_,?_⟩;(next=>(have g1:=Below.cells h2.below;have g2:=Below.frozens h2.below;(try simp only [World.size_alloc,World.size_setCell] at g1 g2);first | (go_simp;(fail)) | (simp [go_sem,↓IntWalk.iteOmega, *];done) | (simp [go_sem,↓IntWalk.iteOmega, *];rfl))));(go_simp;refine hK _ ?_;clear hK K))
 refine wpQuiet_nil ?_
 intro w2 h2
 have hb2:=h2.below
 clear h2
 have z2:=hb2.size
 have c2:=Below.cells hb2
 have f2:=Below.frozens hb2
 try simp only [World.size_alloc,World.size_setCell,World.size_drew] at z2 c2 f2
 go_wp2_with fail
 refine (HD.out _).mono ?_
 rintro e w3 ⟨rfl,hb3⟩
 have z3:=hb3.size
 have c3:=Below.cells hb3
 have f3:=Below.frozens hb3
 try simp only [World.size_alloc,World.size_setCell,World.size_drew] at z3 c3 f3
 go_wp2_with fail
 refine bodyPost_ret (v:=.tuple #[.agg #[.int .u64 g,.int .u64 m],.agg #[.int .u64 0,.int .u64 r],.int .i64 0]) (by simp [results,Tryz.results44,go_sem,↓IntWalk.iteOmega, *]) rfl ?_
 exact ⟨rfl,(by repeat (first | (with_reducible exact Below.refl _ _) | (with_reducible refine bAl ?_ _) | (with_reducible refine bSc ?_ _) | (with_reducible refine Below.drew ?_) | (with_reducible refine bTm ?_ hb3) | (with_reducible refine bTm ?_ hb2) | (with_reducible refine bTm ?_ hb1)))⟩
theorem div_bits (a b q r:Int) (ha:U128 a) (hb:U128 b) (h0:18446744073709551616≤b) (h:b≤a) (hq:a / b=q) (hr:a % b=r) (w:World) :
  Calls Tryz.prog 44 #[.agg #[.int .u64 (hi a),.int .u64 (lo a)],.agg #[.int .u64 (hi b),.int .u64 (lo b)]] w fun e w'=>
   e=.returned (.tuple #[.agg #[.int .u64 0,.int .u64 q],.agg #[.int .u64 (hi r),.int .u64 (lo r)],.int .i64 0])∧Below w.heap.size w w':=by
 have hn:¬ hi b=0:=by unfold hi;omega
 obtain ⟨z,hz,hc⟩:=cmp_ge a b (Wd.mk ha) (Wd.mk hb) h
 have hzd:decide (z<0)=false:=by simp;omega
 obtain ⟨K,hK,K63,hfit⟩:=dv_len ha hb h h0
 have st:=dvR_start ha hb h (by omega) hK
 have bd:=blen_bd ha
 have bd2:=blen_bd hb
 have hl1:=fun w=>len_any a (Wd.mk ha) w
 have hl2:=fun w=>len_any b (Wd.mk hb) w
 have hup:∀ m:Nat,m≤K→∀ w,_:=fun m hm w=>up_any b m (Wd.mk hb) w (by omega) (by omega)
 have hKw:IntKind.i64.wrap (K:Int)=K:=IntWalk.i64_in _ (by omega)
 have HC:=Lib.hid hc
 have HFit:=Lib.hid hfit
 have HUp:=Lib.hid hup
 have HL1:=Lib.hid hl1
 have HL2:=Lib.hid hl2
 have ST:=Lib.hid st
 have HQ:=Lib.hid hq
 have HR:=Lib.hid hr
 have HA:=Lib.hid ha
 clear hc hfit hup hl1 hl2 st hq hr ha h
 have qa:=alloc_cells
 have qf:=alloc_frozens
 go_enter Tryz.func44,Tryz.ntmps44
 go_wp2_with fail
 refine (HC.out _).mono ?_
 rintro e w1 ⟨rfl,hb1⟩
 have z1:=hb1.size
 have c1:=Below.cells hb1
 have f1:=Below.frozens hb1
 try simp only [World.size_alloc,World.size_setCell,World.size_drew] at z1 c1 f1
 go_wp2_with fail
 refine wp_region_quiet_all (Ext _) (by kernel_rfl) (by kernel_rfl) (Ext.drawn _) ?_
 repeat (first | go_big_quiet_skip | go_big_quiet_step (fail) | (refine BigFrame.wpQuiet_want rfl (fun K hK=>?_);apply Exists.intro;refine ⟨fun w2 h2=>?_,?_⟩;(next=>(have g1:=Below.cells h2.below;have g2:=Below.frozens h2.below;(try simp only [World.size_alloc,World.size_setCell] at g1 g2);first | (go_simp;(first | (go_at_call_of 53 (Value.agg #[.int .u64 (hi a),.int .u64 (lo a)]);refine h2.calls (HL1.out _)) | (go_at_call_of 53 (Value.agg #[.int .u64 (hi b),.int .u64 (lo b)]);refine h2.calls (HL2.out _)))) | (simp [go_sem,↓IntWalk.iteOmega, *];done) | (simp [go_sem,↓IntWalk.iteOmega, *];rfl))));(go_simp;refine hK _ ?_;clear hK K))
 refine wpQuiet_nil ?_
 intro w2 h2
 have hb2:=h2.below
 clear h2
 have z2:=hb2.size
 have c2:=Below.cells hb2
 have f2:=Below.frozens hb2
 try simp only [World.size_alloc,World.size_setCell,World.size_drew] at z2 c2 f2
 go_wp2_with fail
 go_loopw [10,11] (fun q n wr=>∃ (m:Nat) (v x y:Int),Hid (DvR a b K m x y)∧v+1=m∧m≤K+1∧q=.int .u64 y∧n=.int .i64 v ∧
   wr.cell? ⟨w.heap.size,0,none⟩=some (.int .u64 (hi x))∧wr.cell? ⟨w.heap.size,1,none⟩=some (.int .u64 (lo x)) ∧
   wr.frozen? ⟨w.heap.size,0,none⟩=false∧wr.frozen? ⟨w.heap.size,1,none⟩=false ∧
   wr.cell? ⟨w.heap.size+1,0,none⟩=some (.int .u64 (hi b))∧wr.cell? ⟨w.heap.size+1,1,none⟩=some (.int .u64 (lo b)) ∧
   wr.cell? ⟨w.heap.size+1+1,0,none⟩=some (.int .u64 0)∧wr.cell? ⟨w.heap.size+1+1,1,none⟩=some (.int .u64 0) ∧
   wr.frozen? ⟨w.heap.size+1+1,0,none⟩=false∧wr.frozen? ⟨w.heap.size+1+1,1,none⟩=false ∧
   wr.cell? ⟨w.heap.size+1+1+1,0,none⟩=some (.int .u64 0)∧wr.cell? ⟨w.heap.size+1+1+1,1,none⟩=some (.int .u64 0) ∧
   wr.frozen? ⟨w.heap.size+1+1+1,0,none⟩=false∧wr.frozen? ⟨w.heap.size+1+1+1,1,none⟩=false ∧
   w.heap.size+4≤wr.heap.size∧Below w.heap.size w wr)
  (fun _ n _=>(intOf n+1).toNat)
 case atStart=>exact ⟨K+1,(K:Int),a,0,ST,by omega,Nat.le_refl _,rfl,rfl,by simp [go_sem,↓IntWalk.iteOmega, *],by simp [go_sem,↓IntWalk.iteOmega, *],by simp [go_sem,↓IntWalk.iteOmega, *],by simp [go_sem,↓IntWalk.iteOmega, *],by simp [go_sem,↓IntWalk.iteOmega, *],by simp [go_sem,↓IntWalk.iteOmega, *],by simp [go_sem,↓IntWalk.iteOmega, *],by simp [go_sem,↓IntWalk.iteOmega, *],by simp [go_sem,↓IntWalk.iteOmega, *],by simp [go_sem,↓IntWalk.iteOmega, *],by simp [go_sem,↓IntWalk.iteOmega, *],by simp [go_sem,↓IntWalk.iteOmega, *],by simp [go_sem,↓IntWalk.iteOmega, *],by simp [go_sem,↓IntWalk.iteOmega, *],by omega,(by repeat (first | (with_reducible exact Below.refl _ _) | (with_reducible refine bAl ?_ _) | (with_reducible refine bSc ?_ _) | (with_reducible refine Below.drew ?_) | (with_reducible refine bTm ?_ hb2) | (with_reducible refine bTm ?_ hb1)))⟩
 case round=>
  obtain ⟨m,v,x,y,HD,hvm,hm,rfl,rfl,k0,k1,g0,g1,k2,k3,k4,k5,g4,g5,k6,k7,g6,g7,sz,bel⟩:=hrel
  clear c1 f1 z1 hb1 c2 f2 z2 hb2 bd bd2
  have dbd:=dv_bd HD.out K63 hb.1 HA.out
  rcases Nat.eq_zero_or_pos m with rfl | hm0
  ·have hv:v<0:=by omega
   have hend:=dvR_end HD.out (by omega)
   rw [HQ.out,HR.out] at hend
   obtain ⟨rfl,rfl⟩:=hend
   clear hvm dbd
   go_wp2_with fail
   go_region
   go_wp2_with fail
   refine bodyPost_ret (v:=.tuple #[.agg #[.int .u64 0,.int .u64 q],.agg #[.int .u64 (hi r),.int .u64 (lo r)],.int .i64 0]) (by simp [results,Tryz.results44,go_sem,↓IntWalk.iteOmega, *]) rfl ?_
   exact ⟨rfl,(by repeat (first | (with_reducible exact Below.refl _ _) | (with_reducible refine bAl ?_ _) | (with_reducible refine bSc ?_ _) | (with_reducible refine Below.drew ?_) | (with_reducible exact bel)))⟩
  ·obtain ⟨m,rfl⟩:∃ m',m=m'+1:=⟨m - 1,by omega⟩
   obtain rfl:v=(m:Int):=by omega
   clear hvm
   have uB:=HFit.out m (by omega)
   obtain ⟨B,hB⟩:∃ B,up b (m:Int)=B:=⟨_,rfl⟩
   have hB2:B=b * 2 ^ m:=by rw [← hB];exact up_fits (n:=(m:Int)) uB
   rw [← hB2] at uB
   have hupc:=HUp.out m (by omega)
   rw [hB] at hupc
   have HUc:=Lib.hid hupc
   obtain ⟨uy,ux,hsum⟩:=dbd
   have UX:=Lib.hid ux
   have UB:=Lib.hid uB
   have HB2:=Lib.hid hB2
   clear hupc hB hB2 uB ux
   by_cases hc:B≤x
   ·have hn:=dvR_yes HD.out (by rw [← HB2.out];exact hc)
    rw [← HB2.out] at hn
    have hsub:∀ w,_:=fun w=>sub_ok x B (x - B) (Wd.mk UX.out) (Wd.mk UB.out) rfl (by have a:=UX.out;have b:=UB.out;unfold U128 at *;omega) w
    have HS:=Lib.hid hsub
    have HN:=Lib.hid hn
    clear hsub hn
    go_wp2_with fail
    refine wp_region_rest 8 (by kernel_rfl) (by kernel_rfl) ?_
    simp only [List.take_succ_cons,List.take_zero,List.drop_succ_cons,List.drop_zero]
    repeat (first | (refine wpMild_skip rfl ?_) | (refine wpMild_step rfl (fun K hK=>?_);apply Exists.intro;refine ⟨fun w2 h2=>?_,?_⟩;(next=>(have h2':=Below.undrew h2;have g1:=Below.cells h2';have g2:=Below.frozens h2';(try simp only [World.size_alloc,World.size_setCell] at g1 g2);clear h2 h2';unfold mildAt;first | (go_simp;simp only [mildUpon,true_and];(first | (go_at_call 105;refine HUc.out _) | (go_at_call 40;refine HS.out _))) | (simp [mildUpon,go_sem,↓IntWalk.iteOmega, *];done) | (simp [mildUpon,go_sem,↓IntWalk.iteOmega, *];(try go_ints);rfl))));(go_simp;refine hK _ ?_;clear hK K))
    refine wpMild_nil ?_
    refine rest_make _ _ rfl (makes_wd rfl rfl) (fun b3 _=>?_)
    rw [oneBlock_of]
    go_simp
    refine rest_tail ?_ rfl rfl (fun w2 hw2=>?_) ?_
    rotate_left
    next=>
     obtain ⟨d2,e2⟩:=block_cells hw2.one.2
     unfold tailAt
     simp [tailUpon,go_sem,↓IntWalk.iteOmega, *]
     exact ((hw2).one_set 0 _).one_set 1 _
    repeat (first | (refine rest_nil ?_) | (refine rest_mild rfl (fun K hK=>?_);apply Exists.intro;refine ⟨fun w2 h2=>?_,?_⟩;(next=>(unfold mildAt;first | (simp [mildUpon,go_sem];done) | (simp [mildUpon,go_sem];rfl)));(go_simp;refine hK _ ?_;clear hK K)))
    intro w3 st3
    have hb3:=Below.undrew st3.below
    obtain ⟨lo3,blk3⟩:=st3.one
    have up3:=st3.one_lt
    obtain ⟨d3,e3⟩:=block_cells blk3
    clear st3 blk3
    try simp only [World.size_alloc,World.size_setCell,World.size_drew] at lo3
    have z3:=hb3.size
    have c3:=Below.cells hb3
    have f3:=Below.frozens hb3
    try simp only [World.size_alloc,World.size_setCell,World.size_drew] at z3 c3 f3
    go_wp2_with fail
    have q0:w3.cell? ⟨w.heap.size,0,none⟩=some (.int .u64 (hi x)):=by simp [go_sem,↓IntWalk.iteOmega, *]
    have q1:w3.cell? ⟨w.heap.size,1,none⟩=some (.int .u64 (lo x)):=by simp [go_sem,↓IntWalk.iteOmega, *]
    have q2:w3.cell? ⟨w.heap.size+1,0,none⟩=some (.int .u64 (hi b)):=by simp [go_sem,↓IntWalk.iteOmega, *]
    have q3:w3.cell? ⟨w.heap.size+1,1,none⟩=some (.int .u64 (lo b)):=by simp [go_sem,↓IntWalk.iteOmega, *]
    have q4:w3.cell? ⟨w.heap.size+1+1,0,none⟩=some (.int .u64 (0)):=by simp [go_sem,↓IntWalk.iteOmega, *]
    have q5:w3.cell? ⟨w.heap.size+1+1,1,none⟩=some (.int .u64 (0)):=by simp [go_sem,↓IntWalk.iteOmega, *]
    have q6:w3.cell? ⟨w.heap.size+1+1+1,0,none⟩=some (.int .u64 (0)):=by simp [go_sem,↓IntWalk.iteOmega, *]
    have q7:w3.cell? ⟨w.heap.size+1+1+1,1,none⟩=some (.int .u64 (0)):=by simp [go_sem,↓IntWalk.iteOmega, *]
    have p0:w3.frozen? ⟨w.heap.size,0,none⟩=false:=by simp [go_sem,↓IntWalk.iteOmega, *]
    have p1:w3.frozen? ⟨w.heap.size,1,none⟩=false:=by simp [go_sem,↓IntWalk.iteOmega, *]
    have p2:w3.frozen? ⟨w.heap.size+1+1,0,none⟩=false:=by simp [go_sem,↓IntWalk.iteOmega, *]
    have p3:w3.frozen? ⟨w.heap.size+1+1,1,none⟩=false:=by simp [go_sem,↓IntWalk.iteOmega, *]
    have p4:w3.frozen? ⟨w.heap.size+1+1+1,0,none⟩=false:=by simp [go_sem,↓IntWalk.iteOmega, *]
    have p5:w3.frozen? ⟨w.heap.size+1+1+1,1,none⟩=false:=by simp [go_sem,↓IntWalk.iteOmega, *]
    have r0:w3.cell? ⟨b3,0,none⟩=some (.int .u64 (hi (x - B))):=by simp [go_sem, *]
    have r1:w3.cell? ⟨b3,1,none⟩=some (.int .u64 (lo (x - B))):=by simp [go_sem, *]
    have bel3:Below w.heap.size w w3:=(by repeat (first | (with_reducible exact Below.refl _ _) | (with_reducible refine bAl ?_ _) | (with_reducible refine bSc ?_ _) | (with_reducible refine Below.drew ?_) | (with_reducible refine bTm ?_ hb3) | (with_reducible exact bel)))
    have sz3:w.heap.size+4≤w3.heap.size:=by omega
    have lt3:w.heap.size+4≤b3:=by omega
    have orr:bits .or .u64 y (IntKind.u64.wrap (2 ^ m))=y+2 ^ m:=by
     have hp:=Go.Proofs.YtnaebigoknfndaaGreatDoor.p2 m
     have e:IntKind.u64.wrap (2 ^ m)=2 ^ m:=by rw [Int.pow_succ] at hsum;have:=uy.1;rw [IntKind.wrap_u64];omega
     rw [e];exact dv_or HD.out K63 hb.1 HA.out
    clear c3 f3 d3 e3 z3 k0 k1 g0 g1 k2 k3 k4 k5 g4 g5 k6 k7 g6 g7 sz bel hb3 qa qf
    have bel:=bel3
    clear bel3
    go_region
    go_wp2_with fail
    go_roundw
    case rel=>
     refine ⟨m,(m:Int) - 1,x - B,y+2 ^ m,HN,by omega,by omega,?_,?_,?_,?_,?_,?_,?_,?_,?_,?_,?_,?_,?_,?_,?_,?_,?_,?_⟩
     all_goals first | rfl | (simp [go_sem,↓IntWalk.iteOmega, *];done) | (simp only [World.size_setCell,World.size_drew];omega) | exact (by repeat (first | (with_reducible exact Below.refl _ _) | (with_reducible refine bAl ?_ _) | (with_reducible refine bSc ?_ _) | (with_reducible refine Below.drew ?_) | (with_reducible exact bel)))
    case measure=>simp [intOf] <;> omega
   ·have hn:=dvR_no HD.out (by rw [← HB2.out];omega)
    have hsub:∀ w,_:=fun w=>sub_sign x B (Wd.mk UX.out) (Wd.mk UB.out) (by unfold U128;omega) w
    have HS:=Lib.hid hsub
    have HN:=Lib.hid hn
    clear hsub hn
    go_wp2_with fail
    refine wp_region_rest 8 (by kernel_rfl) (by kernel_rfl) ?_
    simp only [List.take_succ_cons,List.take_zero,List.drop_succ_cons,List.drop_zero]
    repeat (first | (refine wpMild_skip rfl ?_) | (refine wpMild_step rfl (fun K hK=>?_);apply Exists.intro;refine ⟨fun w2 h2=>?_,?_⟩;(next=>(have h2':=Below.undrew h2;have g1:=Below.cells h2';have g2:=Below.frozens h2';(try simp only [World.size_alloc,World.size_setCell] at g1 g2);clear h2 h2';unfold mildAt;first | (go_simp;simp only [mildUpon,true_and];(first | (go_at_call 105;refine HUc.out _) | (go_at_call 40;refine HS.out _))) | (simp [mildUpon,go_sem,↓IntWalk.iteOmega, *];done) | (simp [mildUpon,go_sem,↓IntWalk.iteOmega, *];(try go_ints);rfl))));(go_simp;refine hK _ ?_;clear hK K))
    refine wpMild_nil ?_
    refine rest_make _ _ rfl (makes_wd rfl rfl) (fun b3 _=>?_)
    rw [oneBlock_of]
    go_simp
    refine rest_tail ?_ rfl rfl (fun w2 hw2=>?_) ?_
    rotate_left
    next=>
     obtain ⟨d2,e2⟩:=block_cells hw2.one.2
     unfold tailAt
     simp [tailUpon,go_sem,↓IntWalk.iteOmega, *]
     exact ((hw2).one_set 0 _).one_set 1 _
    repeat (first | (refine rest_nil ?_) | (refine rest_mild rfl (fun K hK=>?_);apply Exists.intro;refine ⟨fun w2 h2=>?_,?_⟩;(next=>(unfold mildAt;first | (simp [mildUpon,go_sem];done) | (simp [mildUpon,go_sem];rfl)));(go_simp;refine hK _ ?_;clear hK K)))
    intro w3 st3
    have hb3:=Below.undrew st3.below
    obtain ⟨lo3,blk3⟩:=st3.one
    have up3:=st3.one_lt
    obtain ⟨d3,e3⟩:=block_cells blk3
    clear st3 blk3
    try simp only [World.size_alloc,World.size_setCell,World.size_drew] at lo3
    have z3:=hb3.size
    have c3:=Below.cells hb3
    have f3:=Below.frozens hb3
    try simp only [World.size_alloc,World.size_setCell,World.size_drew] at z3 c3 f3
    go_wp2_with fail
    go_roundw
    case rel=>
     refine ⟨m,(m:Int) - 1,x,y,HN,by omega,by omega,?_,?_,?_,?_,?_,?_,?_,?_,?_,?_,?_,?_,?_,?_,?_,?_,?_,?_⟩
     all_goals first | rfl | (simp [go_sem,↓IntWalk.iteOmega, *];done) | omega | (simp only [World.size_setCell,World.size_drew];omega) | exact (by repeat (first | (with_reducible exact Below.refl _ _) | (with_reducible refine bAl ?_ _) | (with_reducible refine bSc ?_ _) | (with_reducible refine Below.drew ?_) | (with_reducible refine bTm ?_ hb3) | (with_reducible exact bel)))
    case measure=>simp [intOf] <;> omega
theorem div_ok (a b q r:Int) {ah al bh bl:Int} (ha:Wd a ah al) (hb:Wd b bh bl) (h0:0<b) (hq:a / b=q) (hr:a % b=r) (w:World) :
  Calls Tryz.prog 44 #[.agg #[.int .u64 ah,.int .u64 al],.agg #[.int .u64 bh,.int .u64 bl]] w fun e w'=>
   e=.returned (.tuple #[.agg #[.int .u64 (hi q),.int .u64 (lo q)],.agg #[.int .u64 (hi r),.int .u64 (lo r)],.int .i64 0])∧Below w.heap.size w w':=by
 have ha':=ha
 have hb':=hb
 obtain ⟨ua,rfl,rfl⟩:=ha
 obtain ⟨ub,rfl,rfl⟩:=hb
 by_cases c:a<b
 ·have e1:q=0:=by rw [← hq];exact Int.ediv_eq_zero_of_lt ua.1 c
  have e2:r=a:=by rw [← hr];exact Int.emod_eq_of_lt ua.1 c
  subst e1 e2
  exact div_less r b ha' hb' c w
 ·by_cases d:b<18446744073709551616
  ·have e1:hi b=0:=by unfold hi;omega
   have e2:lo b=b:=by unfold lo;omega
   have r1:=Int.emod_nonneg a (show b≠0 by omega)
   have r2:=Int.emod_lt_of_pos a h0
   rw [hr] at r1 r2
   rw [e1,e2,show hi r=0 by unfold hi;omega,show lo r=r by unfold lo;omega]
   exact div_low a b q r ua (by unfold U64;omega) h0 (by omega) hq hr w
  ·have q0:0≤q:=by rw [← hq];exact Int.ediv_nonneg ua.1 (by omega)
   have q1:q<18446744073709551616:=by
    rw [← hq];refine Int.ediv_lt_of_lt_mul h0 ?_
    have:18446744073709551616 * 18446744073709551616≤b * 18446744073709551616:=Int.mul_le_mul_of_nonneg_right (by omega) (by omega)
    unfold U128 at ua;omega
   rw [show hi q=0 by unfold hi;omega,show lo q=q by unfold lo;omega]
   exact div_bits a b q r ua ub (by omega) (by omega) hq hr w
theorem div_none (a:Int) {ah al:Int} (ha:Wd a ah al) (w:World) :
  Calls Tryz.prog 44 #[.agg #[.int .u64 ah,.int .u64 al],.agg #[.int .u64 0,.int .u64 0]] w fun e w'=>
   e=.returned (.tuple #[.agg #[.int .u64 0,.int .u64 0],.agg #[.int .u64 0,.int .u64 0],.int .i64 6])∧Below w.heap.size w w':=by
 obtain ⟨ua,rfl,rfl⟩:=ha
 exact div_zero a w
end Go.Proofs.YtnaebigoknfndaaGreatDoor
namespace Go.Proofs.YtnaebigoknfndaaGreatDoor
open Go Go.RowKit
theorem hi_dig {R:Nat} (h:R<10):hi (R:Int)=0∧lo (R:Int)=R:=by unfold hi lo;omega
theorem zero_halves {Q:Nat} (h:hi (Q:Int)=0) (h':lo (Q:Int)=0):Q=0:=by unfold hi lo at *;omega
theorem dig_bytes {l:List Nat} (h:Dig l):Bytes l:=fun b hb=>by have:=h b hb;omega
theorem own_set8 {w:World} {B e s n:Nat} {v:Value} {xs:List Value} (h:w.ownsRow B e s v n xs) {b:Nat} (hb:b<B) (o:Nat) (u:Value):(w.setCell ⟨b,o,none⟩ u).ownsRow B e s v n xs:=by
 refine ⟨h.1,h.2.imp id fun ⟨g,cap,cur,h1,h2,h3,h4⟩=>⟨g,cap,cur,h1,h2,?_,h4⟩⟩
 have:¬ b=g:=by omega
 simp [World.setCell,Array.getElem?_modify,this,h3]
theorem two_cells8 {w:World} {b:Nat} {u u' v v':Value} (h0:w.cell? ⟨b,0,none⟩=some u) (h1:w.cell? ⟨b,1,none⟩=some u') :
  ((w.setCell ⟨b,0,none⟩ v).setCell ⟨b,1,none⟩ v').cell? ⟨b,0,none⟩=some v∧((w.setCell ⟨b,0,none⟩ v).setCell ⟨b,1,none⟩ v').cell? ⟨b,1,none⟩=some v':=by
 have n01:(⟨b,0,none⟩:Addr)≠⟨b,1,none⟩:=by simp
 have a1:(w.setCell ⟨b,0,none⟩ v).cell? ⟨b,1,none⟩=some u':=by rw [World.cell?_setCell_other _ _ _ _ n01];exact h1
 exact ⟨by rw [World.cell?_setCell_other _ _ _ _ n01.symm];exact World.cell?_setCell_same _ _ _ h0,World.cell?_setCell_same _ _ _ a1⟩
theorem app1_cells' (w:World) (x:Value) (T:TypeId) {b:Nat} (hb:b=w.heap.size):∀ j u,[x][j]? = some u→(w.alloc (.cells #[x] T)).cell? ((⟨b,0,none⟩:Addr).add j)=some u:=by
 subst hb;exact app1_cells w x T
theorem one_u8 (y:Int):∀ u ∈ [Value.int .u8 y],u.oneCell'=true:=by intro u hu;simp at hu;subst hu;rfl
theorem text_ok (N:Nat) {h l:Int} (ha:Wd (N:Int) h l) (w:World) :
  Calls Tryz.prog 52 #[.agg #[.int .u64 h,.int .u64 l]] w fun e w'=>e=.returned (.string (mkB (txt N)))∧Below w.heap.size w w':=by
 obtain ⟨hN,rfl,rfl⟩:=ha
 have hlen:(dgl N).length≤39:=by rw [dgl_len];exact txt_len39 (by unfold U128 at hN;omega)
 obtain ⟨D,hD⟩:∃ D,dgl N=D:=⟨_,rfl⟩
 have htx:txt N=D.reverse:=by rw [txt,hD]
 have hDb:Bytes D.reverse:=by rw [← htx];exact dig_bytes (txt_dig N)
 rw [htx]
 have HD:=Lib.hid hD
 have HN:=Lib.hid hN
 have HB:=Lib.hid hDb
 have HL:=Lib.hid (hD ▸ hlen:D.length≤39)
 obtain ⟨i0,hi0,hz0,hz1,hz2⟩:=info_parts info_u8
 have qa:=alloc_cells
 have qf:=alloc_frozens
 clear hD htx hDb hlen hN
 go_enter Tryz.func52,Tryz.ntmps52
 have hb0:Below w.heap.size w (w.alloc (.cells #[.int .u64 (hi N),.int .u64 (lo N)] 66)):=(Below.refl _ _).alloc (Nat.le_refl _) _
 obtain ⟨k0,k1⟩:(w.alloc (.cells #[.int .u64 (hi N),.int .u64 (lo N)] 66)).cell? ⟨w.heap.size,0,none⟩=some (.int .u64 (hi N))∧(w.alloc (.cells #[.int .u64 (hi N),.int .u64 (lo N)] 66)).cell? ⟨w.heap.size,1,none⟩=some (.int .u64 (lo N)):=by simp [qa]
 have kf:∀ o,(w.alloc (.cells #[.int .u64 (hi N),.int .u64 (lo N)] 66)).frozen? ⟨w.heap.size,o,none⟩=false:=by intro o;simp [qf]
 have HK:=Lib.hid (⟨k0,k1,kf,hb0⟩:_∧_∧_∧_)
 clear k0 k1 kf hb0
 go_wp2_with fail
 go_loopg [3] D.length (fun m v wr=>∃ (M n:Nat) (ds:List Nat),U128 (M:Int)∧(dgl M).length≤m∧ds.length=n∧ds++dgl M=D∧wr.ownsRow (w.heap.size+1) 5 1 v n (ds.map bv) ∧
  wr.cell? ⟨w.heap.size,0,none⟩=some (.int .u64 (hi M))∧wr.cell? ⟨w.heap.size,1,none⟩=some (.int .u64 (lo M))∧(∀ o,wr.frozen? ⟨w.heap.size,o,none⟩=false)∧w.heap.size+1≤wr.heap.size∧Below w.heap.size w wr)
 case atStart=>exact ⟨N,0,[],HN.out,Nat.le_of_eq (by rw [HD.out]),rfl,by rw [HD.out];rfl,World.ownsRow_nil _ _ _ _,HK.out.1,HK.out.2.1,HK.out.2.2.1,by simp,HK.out.2.2.2⟩
 case round=>
  obtain ⟨M,n,ds,hM,hm,hn,hds,hown,ka,kb,kf,hsz,bel⟩:=hrel
  obtain ⟨Q,hQ⟩:∃ Q,M / 10=Q:=⟨_,rfl⟩
  obtain ⟨R,hR⟩:∃ Q,M % 10=Q:=⟨_,rfl⟩
  have r10:R<10:=by omega
  have hdiv:∀ w',_:=fun w'=>div_ok (M:Int) 10 Q R (Wd.mk hM) (Wd.lit (l:=10) (by unfold U64;omega)) (by omega) (by omega) (by omega) w'
  obtain ⟨r0,r1⟩:=hi_dig r10
  rw [r0,r1] at hdiv
  have HDiv:=Lib.hid hdiv
  have w1:IntKind.u8.wrap (R:Int)=R:=by simp only [IntKind.wrap,IntKind.signed,IntKind.bits];simp;omega
  have w2:IntKind.u8.wrap (48+(R:Int))=48+R:=by simp only [IntKind.wrap,IntKind.signed,IntKind.bits];simp;omega
  obtain ⟨A,c,rfl,p1,p2,p3⟩:=own_form hown
  have hn39:n≤39:=by have:=HL.out;rw [← hds,List.length_append] at this;omega
  have hQM:Q<10∨True:=.inr trivial
  have HO:=Lib.hid hown
  have HDs:=Lib.hid (⟨hM,hm,hn,hds,hQ,hR⟩:_∧_∧_∧_∧_∧_)
  clear hdiv hown hM hm hn hds hQ hR hQM
  go_wp2_with fail
  refine (HDiv.out _).mono ?_
  rintro e wd ⟨rfl,hbd⟩
  have zd:=hbd.size
  have cd:=Below.cells hbd
  have fd:=Below.frozens hbd
  have own1:=own_below HO.out hbd
  have hob:∀ g,(Value.slice A n c).ownBlock=some g→w.heap.size+1≤g∧g<wr.heap.size:=fun g hg=>HO.out.lt g hg
  have HOb:=Lib.hid hob
  clear hob
  go_wp2_with (at_builtin;(refine wpList_append_own _ rfl _ _ 39 rfl (w.heap.size+1) 5 i0 (.int .u8 0) 1 1 Tryz.underlying39 hi0 hz0 hz1 hz2 rfl (by decide) _ _ _ rfl (((own1.alloc _).alloc _).alloc _) ⟨wd.heap.size+1+1,0,none⟩ 1 1 [.int .u8 (48+(R:Int))] rfl rfl (app1_cells' _ _ _ (by simp)) (one_u8 _) (by unfold maxLen;omega) (by omega) (by simp;omega) ?_))
  intro vq wq ownq grq _
  have hnb:∀ b,b<wd.heap.size+1→(b<w.heap.size+1∨wr.heap.size≤b)→wq.heap[b]? = ((wd.alloc (.cells #[.int .u64 (hi Q),.int .u64 (lo Q)] 66)).alloc (.cells #[.int .u64 0,.int .u64 R] 66)).heap[b]?:=fun b hb hc=>by
   refine (grq.block b (by simp;omega) (fun e=>?_)).trans (Below.heap_alloc _ _ b (by simp;omega))
   have:=HOb.out b e.symm
   omega
  have q0:wq.cell? ⟨wd.heap.size,0,none⟩=some (.int .u64 (hi Q)):=(World.cell?_of_block (hnb wd.heap.size (by omega) (.inr (by omega)))).trans (by simp [go_sem,↓IntWalk.iteOmega, *])
  have q1:wq.cell? ⟨wd.heap.size,1,none⟩=some (.int .u64 (lo Q)):=(World.cell?_of_block (hnb wd.heap.size (by omega) (.inr (by omega)))).trans (by simp [go_sem,↓IntWalk.iteOmega, *])
  have hnw:wq.heap[w.heap.size]? = wr.heap[w.heap.size]?:=(hnb w.heap.size (by omega) (.inl (by omega))).trans ((Below.heap_alloc _ _ _ (by simp;omega)).trans ((Below.heap_alloc _ _ _ (by omega)).trans (hbd.block _ (by omega))))
  have q2:wq.cell? ⟨w.heap.size,0,none⟩=some (.int .u64 (hi M)):=(World.cell?_of_block hnw).trans ka
  have q3:wq.cell? ⟨w.heap.size,1,none⟩=some (.int .u64 (lo M)):=(World.cell?_of_block hnw).trans kb
  have q4:∀ o,wq.frozen? ⟨w.heap.size,o,none⟩=false:=fun o=>(World.frozen?_of_block hnw).trans (kf o)
  have bq:Below w.heap.size w wq:=(((((bel.trans (hbd.mono (by omega))).alloc (by omega) _).alloc (by simp;omega) _).alloc (by simp;omega) _).grown grq (by simp;omega) (fun g hg=>by have:=(HOb.out g hg).1;omega))
  have zq:=grq.size
  simp only [World.size_alloc] at zq
  have ownq':wq.ownsRow (w.heap.size+1) 5 1 vq (n+1) ((ds ++ [48+R]).map bv):=by rw [List.map_append];exact ownq
  have HQ:=Lib.hid ownq'
  have HBq:=Lib.hid bq
  clear ownq ownq' grq hnb hnw own1 cd fd ka kb kf hbd bq bel qa qf
  obtain ⟨A',c',rfl,p1',p2',p3'⟩:=own_form HQ.out
  have hh:=HDs.out
  obtain ⟨hM,hm,hn,hds,hQ,hR⟩:=hh
  by_cases hq0:Q=0
  ·have hM10:M<10:=by omega
   have e1:hi (Q:Int)=0:=by subst hq0;exact hi_zero
   have e2:lo (Q:Int)=0:=by subst hq0;exact lo_zero
   rw [e1] at q0
   rw [e2] at q1
   rw [dgl_lt hM10] at hds
   have hR':R=M:=by omega
   rw [← hR'] at hds
   have hDn:D.length=n+1:=by rw [← hds,List.length_append,hn];rfl
   have ownD:wq.ownsRow (w.heap.size+1) 5 1 (.slice A' (n+1) c') (n+1) (D.map bv):=by rw [← hds];exact HQ.out
   have HOwn:=Lib.hid (own_set8 (own_set8 ownD (b:=w.heap.size) (by omega) 0 (.int .u64 0)) (b:=w.heap.size) (by omega) 1 (.int .u64 0))
   clear ownD HQ hds hR' hDn hM hm hn hQ hR hM10 hq0
   go_wp2_with fail
   refine (reverse_ok A' (n+1) c' (w.heap.size+1) D _ HOwn.out (by omega)).mono ?_
   rintro e w5 ⟨rfl,own5,hb5⟩
   have hcv:=run_own_text w5 HB.out own5
   have B5:=Lib.hid (((HBq.out.setCell (p:=⟨w.heap.size,0,none⟩) (Nat.le_refl _) (.int .u64 0)).setCell (p:=⟨w.heap.size,1,none⟩) (Nat.le_refl _) (.int .u64 0)).trans (hb5.mono (by omega)))
   clear own5 hb5
   go_wp2_with fail
   go_ret
   exact ⟨rfl,B5.out⟩
  ·have hM10:¬ M<10:=by omega
   have hQU:U128 (Q:Int):=by unfold U128 at *;omega
   rw [dgl_ge hM10,hQ,hR] at hds
   rw [dgl_ge hM10,hQ,List.length_cons] at hm
   have hcs:(¬ hi (Q:Int)=0)∨(hi (Q:Int)=0∧¬ lo (Q:Int)=0):=by
    by_cases c:hi (Q:Int)=0
    ·exact .inr ⟨c,fun c2=>hq0 (zero_halves c c2)⟩
    ·exact .inl c
   have hds2:(ds ++ [48+R])++dgl Q=D:=by rw [← hds];simp
   obtain ⟨m',rfl⟩:∃ m',gk=m'+1:=⟨gk - 1,by omega⟩
   have hle:(dgl Q).length≤m':=by omega
   obtain ⟨X,hX⟩:∃ X,hi (Q:Int)=X:=⟨_,rfl⟩
   obtain ⟨Y,hY⟩:∃ X,lo (Q:Int)=X:=⟨_,rfl⟩
   rw [hX,hY] at hcs
   rw [hX] at q0
   rw [hY] at q1
   have HX:=Lib.hid (⟨hX,hY⟩:_∧_)
   have HOwn:=Lib.hid (own_set8 (own_set8 HQ.out (b:=w.heap.size) (by omega) 0 (.int .u64 X)) (b:=w.heap.size) (by omega) 1 (.int .u64 Y))
   have HC0:=Lib.hid (two_cells8 q2 q3 (v:=.int .u64 X) (v':=.int .u64 Y))
   have HFz:=Lib.hid (fun o=>((World.frozen?_setCell _ _ _ _).trans ((World.frozen?_setCell _ _ _ _).trans (q4 o)):((wq.setCell ⟨w.heap.size,0,none⟩ (.int .u64 X)).setCell ⟨w.heap.size,1,none⟩ (.int .u64 Y)).frozen? ⟨w.heap.size,o,none⟩=false))
   have HB5:=Lib.hid ((HBq.out.setCell (p:=⟨w.heap.size,0,none⟩) (Nat.le_refl _) (.int .u64 X)).setCell (p:=⟨w.heap.size,1,none⟩) (Nat.le_refl _) (.int .u64 Y))
   have HR:=Lib.hid (⟨hQU,hle,(by simp [hn]:(ds ++ [48+R]).length=n+1),hds2⟩:_∧_∧_∧_)
   clear HQ hds hM hm hn hQ hR hM10 hq0 hQU hds2 hle hX hY
   rcases hcs with c1 | ⟨rfl,c2⟩
   all_goals
    go_wp2_with fail
    go_roundg m'
   all_goals first
    | (case measure=>omega)
    | (case rel=>exact ⟨Q,n+1,ds ++ [48+R],HR.out.1,HR.out.2.1,HR.out.2.2.1,HR.out.2.2.2,HOwn.out,by rw [HX.out.1];exact HC0.out.1,by rw [HX.out.2];exact HC0.out.2,HFz.out,by simp;omega,HB5.out⟩)
end Go.Proofs.YtnaebigoknfndaaGreatDoor
namespace Go.Proofs.YtnaebigoknfndaaGreatDoor
open Go Go.RowKit
def okB:ByteArray:=⟨#[111,107]⟩
def spB:ByteArray:=⟨#[32]⟩
def toldT (l:List Int):ByteArray:=l.foldl (fun o n=>o++(spB++itoB n)) okB
theorem toldT_snoc (l:List Int) (x:Int):toldT (l ++ [x])=toldT l++(spB++itoB x):=by simp [toldT]
theorem itoB_size {n:Int} (h : -9223372036854775808≤n∧n≤9223372036854775807):(itoB n).size≤21:=by
 have:=Lib.itoa_length_le n h.1 h.2
 simpa [itoB,ByteArray.size] using this
def I64s (l:List Int):Prop:=∀ x,x∈l → -9223372036854775808≤x∧x≤9223372036854775807
theorem toldT_size:∀ (l:List Int),I64s l→(toldT l).size≤2+22 * l.length:=by
 intro l h
 have key:∀ (m:List Int) (o:ByteArray),I64s m→(m.foldl (fun o n=>o++(spB++itoB n)) o).size≤o.size+22 * m.length:=by
  intro m
  induction m with
  | nil=>intro o _;simp
  | cons x m ih=>
   intro o hm
   have h1:=itoB_size (hm x List.mem_cons_self)
   have h2:=ih (o++(spB++itoB x)) (fun y hy=>hm y (List.mem_cons_of_mem _ hy))
   rw [ByteArray.size_append,ByteArray.size_append] at h2
   have h3:spB.size=1:=rfl
   simp only [List.foldl_cons,List.length_cons]
   omega
 have:=key l okB h
 have h3:okB.size=2:=rfl
 unfold toldT
 omega
theorem told_num (A:Option Addr) (n c:Nat) (l:List Int) (w:World) (g:GOK w) (hr:Row w A n l) (hn:n≤8) (hl:I64s l) :
  Calls Tryz.prog 58 #[.slice A n c] w fun e w'=>e=.returned (.string (toldT l))∧Below w.heap.size w w':=by
 have HE:=Lib.hid hr.each
 have hlen:l.length=n:=hr.1
 have HL:=Lib.hid hlen
 have HI:=Lib.hid (fun x w' (hx : -9223372036854775808≤x∧x≤9223372036854775807) (hb:Below w.heap.size w w')=>itoa_any x hx.1 hx.2 w' (g.below hb g.low))
 have HXr:=Lib.hid (fun q (hq:q<n)=>(hl (l.getD q 0) (by rw [List.getD_eq_getElem?_getD,List.getElem?_eq_getElem (by omega)];exact List.getElem_mem _)))
 have HS:=Lib.hid (fun q=>toldT_size (l.take q) (fun x hx=>hl x (List.mem_of_mem_take hx)))
 have t0:toldT []=⟨#[111,107]⟩:=rfl
 have s0:spB=⟨#[32]⟩:=rfl
 have HT0:=Lib.hid t0
 have HS0:=Lib.hid s0
 clear hr hlen g hl t0 s0
 go_enter Tryz.func58,Tryz.ntmps58
 go_wp2_with fail
 go_loopw [3,8] (fun o i wr=>∃ q:Nat,q≤n∧i=.int .i64 q∧o=.string (toldT (l.take q))∧Below w.heap.size w wr) (fun _ i _=>n - (intOf i).toNat)
 case atStart=>exact ⟨0,Nat.zero_le _,rfl,by rw [List.take_zero,HT0.out],Below.refl _ _⟩
 case round=>
  obtain ⟨q,hq,rfl,rfl,bel⟩:=hrel
  have sz0:=bel.size
  have qw:IntKind.i64.wrap ((q:Int)+1)=(q:Int)+1:=IntWalk.i64_in _ (by omega)
  by_cases hlt:q<n
  ·obtain ⟨bkx,offx,hAx,ltx,hrx⟩:=HE.out q hlt
   subst hAx
   replace hrx:=(bel.cell (p:=⟨bkx,offx+q,none⟩) ltx).trans hrx
   obtain ⟨x,hvx,hxx⟩:=name_num hrx
   have HX:=Lib.hid hvx
   clear hvx hrx
   have lq:(q:Int)<n:=by omega
   have hx:=HXr.out q hlt
   rw [← HX.out] at hx
   obtain ⟨I,hI⟩:∃ I,itoB x=I:=⟨_,rfl⟩
   have zi:=itoB_size hx
   obtain ⟨A1,a1⟩:∃ z,ByteArray.mk #[32]++I=z:=⟨_,rfl⟩
   obtain ⟨T,hT⟩:∃ T,toldT (l.take q)=T:=⟨_,rfl⟩
   have zt:=HS.out q
   rw [hT,List.length_take] at zt
   rw [hI] at zi
   have z32:(ByteArray.mk #[32]).size=1:=rfl
   have za:A1.size=1+I.size:=by rw [← a1,ByteArray.size_append,z32]
   obtain ⟨A2,a2⟩:∃ z,T++A1=z:=⟨_,rfl⟩
   have p1:=str_add (show (ByteArray.mk #[32]).size+I.size≤1000 by omega) a1
   have p2:=str_add (show T.size+A1.size≤1000 by omega) a2
   have hnx:toldT (l.take (q+1))=A2:=by rw [take_snoc _ (by have:=HL.out;omega),toldT_snoc,hT,← HX.out,hI,show spB=⟨#[32]⟩ from rfl,a1,a2]
   have HNX:=Lib.hid hnx
   have HI1:=HI.out x wr hx bel
   rw [hI] at HI1
   rw [hT]
   clear hnx a1 a2 zi zt za z32 hI hT hx
   go_wp2_with fail
   refine HI1.mono ?_
   rintro e w3 ⟨rfl,hb3⟩
   have bel3:=bel.trans (hb3.mono sz0)
   clear bel hb3
   go_wp2_with fail
   go_roundw
   case rel=>first | exact ⟨q+1,by omega,by go_num,by rw [HNX.out],bel3⟩ | ((repeat apply Exists.intro);exact ⟨⟨q+1,by omega,by go_num,by rw [HNX.out],bel3⟩,rfl⟩)
   case measure=>simp [intOf];omega
  ·obtain rfl:q=n:=by omega
   rw [List.take_of_length_le (by have:=HL.out;omega)]
   have lq:¬ (q:Int)<q:=by omega
   go_wp2_with fail
   refine bodyPost_ret (v:=.string (toldT l)) (by simp [results,Tryz.results58,go_sem]) rfl ?_
   exact ⟨rfl,bel⟩
theorem one_num (x:Int) (w:World) (g:GOK w) (hx : -9223372036854775808≤x∧x≤9223372036854775807) :
  Calls Tryz.prog 46 #[.int .i64 x,.int .i64 0] w fun e w'=>e=.returned (.string (toldT [x]))∧Below w.heap.size w w':=by
 have HM:=Lib.hid (fun w'=>must_ok w')
 have HT:=Lib.hid (fun w' A c (hb:Below w.heap.size w w') (hr:Row w' A 1 [x])=>told_num A 1 c [x] w' (g.below hb g.low) hr (by omega) (fun y hy=>by rw [List.mem_singleton.1 hy];exact hx))
 clear g hx
 go_enter Tryz.func46,Tryz.ntmps46
 go_wp2_with fail
 refine (HM.out _).mono ?_
 rintro e w1 ⟨rfl,hb1⟩
 have z1:=hb1.size
 have c1:=Below.cells hb1
 have f1:=Below.frozens hb1
 try simp only [World.size_alloc,World.size_setCell,World.size_drew] at z1 c1 f1
 go_wp2_with fail
 go_wp2_with fail
 have hb2:Below w.heap.size w (w1.alloc (.cells #[.int .i64 x] 3)):=(by repeat (first | (with_reducible exact Below.refl _ _) | (with_reducible refine bAl ?_ _) | (with_reducible refine bSc ?_ _) | (with_reducible refine Below.drew ?_) | (with_reducible refine bTm ?_ hb1)))
 refine (HT.out _ _ _ hb2 (Row.lit w1 3 [x] 1 rfl)).mono ?_
 rintro e w3 ⟨rfl,hb3⟩
 go_wp2_with fail
 refine bodyPost_ret (v:=.string (toldT [x])) (by simp [results,Tryz.results46,go_sem]) rfl ?_
 exact ⟨rfl,hb2.trans (hb3.mono hb2.size)⟩
theorem one_no (x e0:Int) (w:World) (h:e0≠0) :
  Calls Tryz.prog 46 #[.int .i64 x,.int .i64 e0] w fun e w'=>e=Fault e0∧Below w.heap.size w w':=by
 have HM:=Lib.hid (fun w'=>must_no e0 w' h)
 clear h
 go_enter Tryz.func46,Tryz.ntmps46
 go_wp2_with fail
 refine (HM.out _).mono ?_
 rintro e w1 ⟨rfl,hb1⟩
 exact ⟨rfl,rfl,hb1⟩
end Go.Proofs.YtnaebigoknfndaaGreatDoor
namespace Go.Proofs.YtnaebigoknfndaaGreatDoor
open Go Go.RowKit
def grT (l:List Nat):ByteArray:=l.foldl (fun o n=>o++(spB++mkB (txt n))) okB
theorem grT_snoc (l:List Nat) (x:Nat):grT (l ++ [x])=grT l++(spB++mkB (txt x)):=by simp [grT]
def U128s (l:List Nat):Prop:=∀ x,x∈l→U128 (x:Int)
theorem txtB_size {n:Nat} (h:U128 (n:Int)):(mkB (txt n)).size≤39:=by rw [mkB_size];exact txt_len39 (by unfold U128 at h;omega)
theorem grT_size:∀ (l:List Nat),U128s l→(grT l).size≤2+40 * l.length:=by
 intro l h
 have key:∀ (m:List Nat) (o:ByteArray),U128s m→(m.foldl (fun o n=>o++(spB++mkB (txt n))) o).size≤o.size+40 * m.length:=by
  intro m
  induction m with
  | nil=>intro o _;simp
  | cons x m ih=>
   intro o hm
   have h1:=txtB_size (hm x List.mem_cons_self)
   have h2:=ih (o++(spB++mkB (txt x))) (fun y hy=>hm y (List.mem_cons_of_mem _ hy))
   rw [ByteArray.size_append,ByteArray.size_append] at h2
   have h3:spB.size=1:=rfl
   simp only [List.foldl_cons,List.length_cons]
   omega
 have:=key l okB h
 have h3:okB.size=2:=rfl
 unfold grT
 omega
def GRow (w:World) (b n:Nat) (L:List Nat):Prop:=L.length=n∧b<w.heap.size∧∀ j,j<n→w.cell? ⟨b,j * 2,none⟩=some (.int .u64 (hi (L.getD j 0:Nat)))∧w.cell? ⟨b,j * 2+1,none⟩=some (.int .u64 (lo (L.getD j 0:Nat)))
theorem great_told (b n c:Nat) (l:List Nat) (w:World) (hr:GRow w b n l) (hn:n≤8) (hl:U128s l) :
  Calls Tryz.prog 26 #[.int .i64 0,.slice (some ⟨b,0,none⟩) n c] w fun e w'=>e=.returned (.string (grT l))∧Below w.heap.size w w':=by
 obtain ⟨hlen,hbl,hcl⟩:=hr
 have HC:=Lib.hid hcl
 have HL:=Lib.hid hlen
 have HM:=Lib.hid (fun w'=>must_ok w')
 have HU:=Lib.hid (fun q (hq:q<n)=>(hl (l.getD q 0) (by rw [List.getD_eq_getElem?_getD,List.getElem?_eq_getElem (by omega)];exact List.getElem_mem _)))
 have HS:=Lib.hid (fun q=>grT_size (l.take q) (fun x hx=>hl x (List.mem_of_mem_take hx)))
 have HT:=Lib.hid (fun (N:Nat) (h:U128 (N:Int)) w'=>text_ok N (Wd.mk h) w')
 have t0:grT []=⟨#[111,107]⟩:=rfl
 have HT0:=Lib.hid t0
 have qa:=alloc_cells
 have qf:=alloc_frozens
 clear hlen hcl hl t0
 go_enter Tryz.func26,Tryz.ntmps26
 go_wp2_with fail
 refine (HM.out _).mono ?_
 rintro e w1 ⟨rfl,hb1⟩
 have z1:=hb1.size
 have c1:=Below.cells hb1
 have f1:=Below.frozens hb1
 try simp only [World.size_alloc,World.size_setCell,World.size_drew] at z1 c1 f1
 go_wp2_with fail
 go_wp2_with fail
 go_loopw [5,12] (fun o i wr=>∃ q:Nat,q≤n∧i=.int .i64 q∧o=.string (grT (l.take q))∧Below w.heap.size w wr) (fun _ i _=>n - (intOf i).toNat)
 case atStart=>exact ⟨0,Nat.zero_le _,rfl,by rw [List.take_zero,HT0.out],hb1⟩
 case round=>
  clear c1 f1
  obtain ⟨q,hq,rfl,rfl,bel⟩:=hrel
  have sz0:=bel.size
  have qw:IntKind.i64.wrap ((q:Int)+1)=(q:Int)+1:=IntWalk.i64_in _ (by omega)
  by_cases hlt:q<n
  ·obtain ⟨v0,v1⟩:=HC.out q hlt
   replace v0:=(bel.cell (p:=⟨b,q * 2,none⟩) hbl).trans v0
   replace v1:=(bel.cell (p:=⟨b,q * 2+1,none⟩) hbl).trans v1
   have lq:(q:Int)<n:=by omega
   obtain ⟨x,hx⟩:∃ x,l.getD q 0=x:=⟨_,rfl⟩
   have ux:=HU.out q hlt
   rw [hx] at ux v0 v1
   have hbr:b<wr.heap.size:=Nat.lt_of_lt_of_le hbl sz0
   have hbn:¬ b=wr.heap.size:=by omega
   obtain ⟨I,hI⟩:∃ I,mkB (txt x)=I:=⟨_,rfl⟩
   have zi:=txtB_size ux
   obtain ⟨A1,a1⟩:∃ z,ByteArray.mk #[32]++I=z:=⟨_,rfl⟩
   obtain ⟨T,hT⟩:∃ T,grT (l.take q)=T:=⟨_,rfl⟩
   have zt:=HS.out q
   rw [hT,List.length_take] at zt
   rw [hI] at zi
   have z32:(ByteArray.mk #[32]).size=1:=rfl
   have za:A1.size=1+I.size:=by rw [← a1,ByteArray.size_append,z32]
   obtain ⟨A2,a2⟩:∃ z,T++A1=z:=⟨_,rfl⟩
   have p1:=str_add (show (ByteArray.mk #[32]).size+I.size≤1000 by omega) a1
   have p2:=str_add (show T.size+A1.size≤1000 by omega) a2
   have hnx:grT (l.take (q+1))=A2:=by rw [List.take_succ_eq_append_getElem (by have:=HL.out;omega),grT_snoc,hT,show l[q]'(by have:=HL.out;omega)=x by rw [← hx,List.getD_eq_getElem?_getD,List.getElem?_eq_getElem (by have:=HL.out;omega)];rfl,hI,show spB=⟨#[32]⟩ from rfl,a1,a2]
   have HNX:=Lib.hid hnx
   have HT1:=HT.out x ux
   rw [hI] at HT1
   rw [hT]
   clear hnx a1 a2 zi zt za z32 hI hT hx ux
   have bela:=bel.alloc sz0 (.cells #[.int .u64 (hi x),.int .u64 (lo x)] 66)
   go_wp2_with fail
   refine (HT1 _).mono ?_
   rintro e w3 ⟨rfl,hb3⟩
   have bel3:=bela.trans (hb3.mono bela.size)
   clear bel bela hb3
   go_wp2_with fail
   go_roundw
   case rel=>first | exact ⟨q+1,by omega,by go_num,by rw [HNX.out],bel3⟩ | ((repeat apply Exists.intro);exact ⟨⟨q+1,by omega,by go_num,by rw [HNX.out],bel3⟩,rfl⟩)
   case measure=>simp [intOf];omega
  ·obtain rfl:q=n:=by omega
   rw [List.take_of_length_le (by have:=HL.out;omega)]
   have lq:¬ (q:Int)<q:=by omega
   go_wp2_with fail
   refine bodyPost_ret (v:=.string (grT l)) (by simp [results,Tryz.results26,go_sem]) rfl ?_
   exact ⟨rfl,bel⟩
theorem great_no (v:Value) (e0:Int) (w:World) (h:e0≠0) :
  Calls Tryz.prog 26 #[.int .i64 e0,v] w fun e w'=>e=Fault e0∧Below w.heap.size w w':=by
 have HM:=Lib.hid (fun w'=>must_no e0 w' h)
 clear h
 go_enter Tryz.func26,Tryz.ntmps26
 go_wp2_with fail
 refine (HM.out _).mono ?_
 rintro e w1 ⟨rfl,hb1⟩
 exact ⟨rfl,rfl,hb1⟩
theorem gRow_one (w:World) (T:TypeId) (x:Nat):GRow (w.alloc (.cells #[.int .u64 (hi x),.int .u64 (lo x)] T)) w.heap.size 1 [x]:=by
 refine ⟨rfl,by simp,fun j hj=>?_⟩
 obtain rfl:j=0:=by omega
 simp [alloc_cells]
theorem gRow_two (w:World) (T:TypeId) (x y:Nat):GRow (w.alloc (.cells #[.int .u64 (hi x),.int .u64 (lo x),.int .u64 (hi y),.int .u64 (lo y)] T)) w.heap.size 2 [x,y]:=by
 refine ⟨rfl,by simp,fun j hj=>?_⟩
 rcases (by omega:j=0∨j=1) with rfl | rfl <;> simp [alloc_cells]
end Go.Proofs.YtnaebigoknfndaaGreatDoor
namespace Go.Proofs.YtnaebigoknfndaaGreatDoor
open Go Go.RowKit
def noteT (x:Note):ByteArray:=⟨#[32]⟩++(if x.sus then ⟨#[43]⟩ else ⟨#[45]⟩)++x.id++⟨#[58]⟩++itoB x.theta
def notesT (l:List Note):ByteArray:=l.foldl (fun o n=>o++noteT n) okB
theorem notesT_snoc (l:List Note) (x:Note):notesT (l ++ [x])=notesT l++noteT x:=by simp [notesT]
def NotesS (l:List Note):Prop:=∀ x,x∈l→x.id.size≤8 ∧ -9223372036854775808≤x.theta∧x.theta≤9223372036854775807
theorem signB_size (b:Bool):(if b then ByteArray.mk #[43] else ByteArray.mk #[45]).size=1:=by cases b <;> rfl
theorem noteT_size {x:Note} (h:x.id.size≤8 ∧ -9223372036854775808≤x.theta∧x.theta≤9223372036854775807):(noteT x).size≤32:=by
 have h1:=itoB_size h.2
 unfold noteT
 rw [ByteArray.size_append,ByteArray.size_append,ByteArray.size_append,ByteArray.size_append,signB_size]
 have h2:(ByteArray.mk #[32]).size=1:=rfl
 have h3:(ByteArray.mk #[58]).size=1:=rfl
 omega
theorem notesT_size:∀ (l:List Note),NotesS l→(notesT l).size≤2+32 * l.length:=by
 intro l h
 have key:∀ (m:List Note) (o:ByteArray),NotesS m→(m.foldl (fun o n=>o++noteT n) o).size≤o.size+32 * m.length:=by
  intro m
  induction m with
  | nil=>intro o _;simp
  | cons x m ih=>
   intro o hm
   have h1:=noteT_size (hm x List.mem_cons_self)
   have h2:=ih (o++noteT x) (fun y hy=>hm y (List.mem_cons_of_mem _ hy))
   rw [ByteArray.size_append] at h2
   simp only [List.foldl_cons,List.length_cons]
   omega
 have:=key l okB h
 have h3:okB.size=2:=rfl
 unfold notesT
 omega
theorem strAdd {x y z:ByteArray} (h:x.size+y.size≤1000000) (e:x++y=z):Op.stringOp .add x y=pure (.string z):=by
 subst e
 unfold Op.stringOp
 rw [if_neg (by simp only [IntKind.max,IntKind.bits,IntKind.signed];omega)]
theorem notes_told (A:Option Addr) (n c:Nat) (l:List Note) (w:World) (g:GOK w) (hr:NoteRow w A n l) (hn:n≤1000) (hl:NotesS l) (hlen:l.length=n) :
  Calls Tryz.prog 82 #[.slice A n c,.int .i64 0] w fun e w'=>e=.returned (.string (notesT l))∧Below w.heap.size w w':=by
 have HE:=Lib.hid (fun k (hk:k<n)=>hr.at hk)
 have HL:=Lib.hid hlen
 have HM:=Lib.hid (fun w'=>must_ok w')
 have HI:=Lib.hid (fun x w' (hx : -9223372036854775808≤x∧x≤9223372036854775807) (hb:Below w.heap.size w w')=>itoa_any x hx.1 hx.2 w' (g.below hb g.low))
 have HXr:=Lib.hid (fun q (hq:q<n)=>(hl (l.getD q default) (by rw [List.getD_eq_getElem?_getD,List.getElem?_eq_getElem (by omega)];exact List.getElem_mem _)))
 have HS:=Lib.hid (fun q=>notesT_size (l.take q) (fun x hx=>hl x (List.mem_of_mem_take hx)))
 have t0:notesT []=⟨#[111,107]⟩:=rfl
 have HT0:=Lib.hid t0
 have qa:=alloc_cells
 have qf:=alloc_frozens
 clear hr hlen g hl t0
 go_enter Tryz.func82,Tryz.ntmps82
 go_wp2_with fail
 refine (HM.out _).mono ?_
 rintro e w1 ⟨rfl,hb1⟩
 have z1:=hb1.size
 have c1:=Below.cells hb1
 have f1:=Below.frozens hb1
 try simp only [World.size_alloc,World.size_setCell,World.size_drew] at z1 c1 f1
 go_wp2_with fail
 go_wp2_with fail
 go_loopw [5,13] (fun o i wr=>∃ q:Nat,q≤n∧i=.int .i64 q∧o=.string (notesT (l.take q))∧Below w.heap.size w wr) (fun _ i _=>n - (intOf i).toNat)
 case atStart=>exact ⟨0,Nat.zero_le _,rfl,by rw [List.take_zero,HT0.out],hb1⟩
 case round=>
  clear c1 f1
  obtain ⟨q,hq,rfl,rfl,bel⟩:=hrel
  have sz0:=bel.size
  have qw:IntKind.i64.wrap ((q:Int)+1)=(q:Int)+1:=IntWalk.i64_in _ (by omega)
  by_cases hlt:q<n
  ·obtain ⟨x,hx⟩:∃ x,l.getD q default=x:=⟨_,rfl⟩
   obtain ⟨b,off,hA,hbl,hc⟩:=HE.out q hlt
   have ux:=HXr.out q hlt
   rw [hx] at ux hc
   obtain ⟨id,th,su⟩:=x
   obtain ⟨v0,v1,v2⟩:=hc
   dsimp only at v0 v1 v2
   subst hA
   replace v0:=(bel.cell (p:=⟨b,_,none⟩) hbl).trans v0
   replace v1:=(bel.cell (p:=⟨b,_,none⟩) hbl).trans v1
   replace v2:=(bel.cell (p:=⟨b,_,none⟩) hbl).trans v2
   have lq:(q:Int)<n:=by omega
   have hbr:b<wr.heap.size:=Nat.lt_of_lt_of_le hbl sz0
   have hbn:¬ b=wr.heap.size:=by omega
   obtain ⟨I,hI⟩:∃ I,itoB th=I:=⟨_,rfl⟩
   have zi:=itoB_size ux.2
   obtain ⟨T,hT⟩:∃ T,notesT (l.take q)=T:=⟨_,rfl⟩
   have zt:=HS.out q
   rw [hT,List.length_take] at zt
   rw [hI] at zi
   have z32:(ByteArray.mk #[32]).size=1:=rfl
   have z58:(ByteArray.mk #[58]).size=1:=rfl
   have zsg:=signB_size su
   have zid:=ux.1
   dsimp only at zid
   obtain ⟨A1,a1⟩:∃ z,ByteArray.mk #[32]++(if su then ByteArray.mk #[43] else ByteArray.mk #[45])=z:=⟨_,rfl⟩
   have y1:A1.size=2:=by rw [← a1,ByteArray.size_append,z32,zsg]
   obtain ⟨A2,a2⟩:∃ z,A1++id=z:=⟨_,rfl⟩
   have y2:A2.size=2+id.size:=by rw [← a2,ByteArray.size_append,y1]
   obtain ⟨A3,a3⟩:∃ z,A2++ByteArray.mk #[58]=z:=⟨_,rfl⟩
   have y3:A3.size=3+id.size:=by rw [← a3,ByteArray.size_append,y2,z58];omega
   obtain ⟨A4,a4⟩:∃ z,A3++I=z:=⟨_,rfl⟩
   have y4:A4.size=3+id.size+I.size:=by rw [← a4,ByteArray.size_append,y3]
   obtain ⟨A5,a5⟩:∃ z,T++A4=z:=⟨_,rfl⟩
   have p1:=strAdd (show (ByteArray.mk #[32]).size+(if su then ByteArray.mk #[43] else ByteArray.mk #[45]).size≤1000000 by rw [zsg];omega) a1
   have p2:=strAdd (show A1.size+id.size≤1000000 by omega) a2
   have p3:=strAdd (show A2.size+(ByteArray.mk #[58]).size≤1000000 by omega) a3
   have p4:=strAdd (show A3.size+I.size≤1000000 by omega) a4
   have p5:=strAdd (show T.size+A4.size≤1000000 by omega) a5
   have hnx:notesT (l.take (q+1))=A5:=by
    rw [List.take_succ_eq_append_getElem (by have:=HL.out;omega),notesT_snoc,hT,show l[q]'(by have:=HL.out;omega)=⟨id,th,su⟩ by rw [← hx,List.getD_eq_getElem?_getD,List.getElem?_eq_getElem (by have:=HL.out;omega)];rfl]
    unfold noteT
    dsimp only
    rw [hI,a1,a2,a3,a4,a5]
   have HNX:=Lib.hid hnx
   have HI1:=Lib.hid (fun w' (hb:Below wr.heap.size wr w')=>hI ▸ HI.out th w' ux.2 (bel.trans (hb.mono sz0)))
   rw [hT]
   clear hnx a1 a2 a3 a4 a5 y1 y2 y3 y4 zi zt z32 z58 zsg zid hI hT hx ux
   cases su
   all_goals
    simp only [Bool.false_eq_true,if_false,if_true] at p1
    go_wp2_with fail
    refine wp_region_quiet_all (Ext _) (by kernel_rfl) (by kernel_rfl) (Ext.drawn _) ?_
    repeat (first | go_big_quiet_skip | go_big_quiet_step (fail) | (refine BigFrame.wpQuiet_want rfl (fun K hK=>?_);apply Exists.intro;refine ⟨fun w2 h2=>?_,?_⟩;(next=>(have g1:=Below.cells h2.below;have g2:=Below.frozens h2.below;(try simp only [World.size_alloc,World.size_setCell] at g1 g2);first | (go_simp;(go_at_call 22;exact h2.calls (HI1.out _ (((Below.refl wr.heap.size wr).alloc (Nat.le_refl _) _).trans (h2.below.mono (by simp)))))) | (simp [go_sem,↓IntWalk.iteOmega, *];done) | (simp [go_sem,↓IntWalk.iteOmega, *];rfl))));(go_simp;refine hK _ ?_;clear hK K))
    refine wpQuiet_nil ?_
    intro w3 h3
    have hb3:=h3.below
    clear h3
    have z3:=hb3.size
    have c3:=Below.cells hb3
    have f3:=Below.frozens hb3
    try simp only [World.size_alloc,World.size_setCell,World.size_drew] at z3 c3 f3
    go_wp2_with fail
    have bel3:Below w.heap.size w w3:=(bel.alloc sz0 _).trans (hb3.mono (by simp;omega))
    clear c3 f3 hb3
    go_roundw
    case rel=>first | exact ⟨q+1,by omega,by go_num,by rw [HNX.out],bel3⟩ | ((repeat apply Exists.intro);exact ⟨⟨q+1,by omega,by go_num,by rw [HNX.out],bel3⟩,rfl⟩)
    case measure=>simp [intOf];omega
  ·obtain rfl:q=n:=by omega
   rw [List.take_of_length_le (by have:=HL.out;omega)]
   have lq:¬ (q:Int)<q:=by omega
   go_wp2_with fail
   refine bodyPost_ret (v:=.string (notesT l)) (by simp [results,Tryz.results82,go_sem]) rfl ?_
   exact ⟨rfl,bel⟩
theorem notes_no (v:Value) (e0:Int) (w:World) (h:e0≠0) :
  Calls Tryz.prog 82 #[v,.int .i64 e0] w fun e w'=>e=Fault e0∧Below w.heap.size w w':=by
 have HM:=Lib.hid (fun w'=>must_no e0 w' h)
 clear h
 go_enter Tryz.func82,Tryz.ntmps82
 go_wp2_with fail
 refine (HM.out _).mono ?_
 rintro e w1 ⟨rfl,hb1⟩
 exact ⟨rfl,rfl,hb1⟩
end Go.Proofs.YtnaebigoknfndaaGreatDoor
namespace Go.Proofs.YtnaebigoknfndaaGreatDoor
open Go Go.RowKit
inductive Out
 | err (e:Int)
 | txt (t:ByteArray)
def Out.e:Out→Ending
 | .err e=>Fault e
 | .txt t=>.returned (.string t)
def NoNL (t:ByteArray):Prop:=(10:UInt8)∉t.data.toList
def OkT (t:ByteArray):Prop:=NoNL t∧∃ r,t.data.toList = [111,107]++r
def OutOK:Out→Prop
 | .err e=>-9223372036854775808≤e∧e≤9223372036854775807
 | .txt t=>OkT t∧t.size≤1000000
def errB:ByteArray:=⟨#[101,114,114,111,114,32]⟩
def Out.text:Out→ByteArray
 | .err e=>errB++itoB e
 | .txt t=>t
def Line (t:ByteArray):Prop:=NoNL t∧((∃ r,t.data.toList = [111,107]++r)∨∃ r,t.data.toList = [101,114,114,111,114,32]++r)
theorem NoNL.app {a b:ByteArray} (h:NoNL a) (h':NoNL b):NoNL (a++b):=by
 unfold NoNL at *
 rw [ByteArray.data_append,Array.toList_append,List.mem_append]
 exact fun x=>x.elim h h'
theorem decDigits_nl:∀ u:Nat,(10:UInt8)∉Lib.decDigits u:=by
 intro u
 rw [Lib.decDigits_eq]
 intro h
 obtain ⟨t,_,ht⟩:=List.mem_map.1 h
 unfold Lib.dg at ht
 have:=congrArg UInt8.toNat ht
 rw [UInt8.toNat_ofNat'] at this
 have h10:(10:UInt8).toNat=10:=rfl
 rw [h10] at this
 omega
theorem itoB_nl (n:Int):NoNL (itoB n):=by
 unfold NoNL itoB Lib.itoa
 simp only
 split
 ·intro h
  rcases List.mem_cons.1 h with h | h
  ·cases h
  ·exact decDigits_nl _ h
 ·exact decDigits_nl _
theorem mkB_nl {l:List Nat} (h:∀ x∈l,11≤x∧x≤255):NoNL (mkB l):=by
 unfold NoNL mkB
 simp only
 intro hx
 obtain ⟨t,ht,e⟩:=List.mem_map.1 hx
 have:=congrArg UInt8.toNat e
 rw [UInt8.toNat_ofNat'] at this
 have h10:(10:UInt8).toNat=10:=rfl
 rw [h10] at this
 have:=h t ht
 omega
theorem okB_nl:NoNL okB:=by unfold NoNL okB;decide
theorem spB_nl:NoNL spB:=by unfold NoNL spB;decide
theorem OkT.app {a b:ByteArray} (h:OkT a) (h':NoNL b):OkT (a++b):=by
 obtain ⟨h1,r,h2⟩:=h
 refine ⟨h1.app h',r++b.data.toList,?_⟩
 rw [ByteArray.data_append,Array.toList_append,h2,List.append_assoc]
theorem okB_okT:OkT okB:=⟨okB_nl,[],rfl⟩
theorem fold_okT {α:Type} (F:α→ByteArray):∀ (l:List α) (o:ByteArray),(∀ x∈l,NoNL (F x))→OkT o→OkT (l.foldl (fun o n=>o++F n) o)
 | [],o,_,ho=>ho
 | x :: l,o,h,ho=>fold_okT F l _ (fun y hy=>h y (List.mem_cons_of_mem _ hy)) (ho.app (h x List.mem_cons_self))
theorem toldT_okT (l:List Int):OkT (toldT l):=fold_okT _ l okB (fun x _=>spB_nl.app (itoB_nl x)) okB_okT
theorem grT_okT (l:List Nat):OkT (grT l):=fold_okT _ l okB (fun x _=>spB_nl.app (mkB_nl fun y hy=>by have:=txt_dig x y hy;omega)) okB_okT
theorem idB_nl {s:ByteArray} (h:IdOK (byts s)):NoNL s:=by
 rw [← mkB_byts s]
 exact mkB_nl fun x hx=>by have:=h.2.2 x hx;omega
theorem notesT_okT (l:List Note) (h:∀ x∈l,IdOK (byts x.id)):OkT (notesT l):=fold_okT _ l okB (fun x hx=>by
 unfold noteT
 refine (((NoNL.app ?_ ?_).app (idB_nl (h x hx))).app ?_).app (itoB_nl _)
 ·unfold NoNL;decide
 ·unfold NoNL;cases x.sus <;> decide
 ·unfold NoNL;decide) okB_okT
theorem okB_ok:OutOK (.txt okB):=⟨okB_okT,by decide⟩
theorem Out.small {o:Out} (h:OutOK o):o.text.size≤1000000:=by
 cases o with
 | err e=>
  show (errB++itoB e).size≤_
  rw [ByteArray.size_append]
  have:=itoB_size h
  have h2:errB.size=6:=rfl
  omega
 | txt t=>exact h.2
theorem Out.line {o:Out} (h:OutOK o):Line o.text:=by
 cases o with
 | err e=>
  have h1:NoNL errB:=by unfold NoNL errB;decide
  refine ⟨h1.app (itoB_nl e),.inr ⟨(itoB e).data.toList,?_⟩⟩
  show (errB++itoB e).data.toList=_
  rw [ByteArray.data_append,Array.toList_append]
  rfl
 | txt t=>exact ⟨h.1.1,.inl h.1.2⟩
end Go.Proofs.YtnaebigoknfndaaGreatDoor
namespace Go.Proofs.YtnaebigoknfndaaGreatDoor
open Go Go.RowKit
open Classical in
noncomputable def LE (l:List Int):Int:=if 64<l.length then 2 else if Btw 0 16777216 l then 0 else 1
theorem LE_bd (l:List Int):0≤LE l∧LE l≤2:=by
 unfold LE
 split
 ·decide
 ·split <;> decide
theorem LE_ok {l:List Int} (h:LE l=0):l.length≤64∧Btw 0 16777216 l:=by
 unfold LE at h
 split at h
 ·cases h
 ·split at h
  ·rename_i h1 h2;exact ⟨by omega,h2⟩
  ·cases h
theorem list_le (A:Option Addr) (n c:Nat) (l:List Int) (w:World) (h:Row w A n l) (hm:n≤9223372036854775807) :
  Calls Tryz.prog 111 #[.slice A n c] w fun e w'=>e=.returned (.int .i64 (LE l))∧Below w.heap.size w w':=by
 have hl:=h.1
 have key:Calls Tryz.prog 111 #[.slice A n c] w fun e w'=>e=.returned (.int .i64 (LE l))∧w=w':=by
  unfold LE
  by_cases h1:64<n
  ·rw [if_pos (by omega)]
   exact list_large A n c w h1 hm
  ·rw [if_neg (by omega)]
   by_cases h2:Btw 0 16777216 l
   ·rw [if_pos h2];exact list_ok A n c l w h (by omega) h2
   ·rw [if_neg h2];exact list_bad A n c l w h (by omega) h2
 refine key.mono ?_
 rintro e w' ⟨rfl,rfl⟩
 exact ⟨rfl,Below.refl _ _⟩
noncomputable def oneO (x e0:Int):Out:=if e0=0 then .txt (toldT [x]) else .err e0
theorem oneO_ok {x e0:Int} (h:0≤e0∧e0≤11) (hx : -9223372036854775808≤x∧x≤9223372036854775807):OutOK (oneO x e0):=by
 unfold oneO
 split
 ·exact ⟨toldT_okT _,Nat.le_trans (toldT_size [x] (fun y hy=>by rw [List.mem_singleton.1 hy];exact hx)) (by simp)⟩
 ·exact ⟨by omega,by omega⟩
theorem one_any (x e0:Int) (w:World) (g:GOK w) (hx : -9223372036854775808≤x∧x≤9223372036854775807) :
  Calls Tryz.prog 46 #[.int .i64 x,.int .i64 e0] w fun e w'=>e=(oneO x e0).e∧Below w.heap.size w w':=by
 unfold oneO
 by_cases h:e0=0
 ·subst h;rw [if_pos rfl];exact one_num x w g hx
 ·rw [if_neg h];exact one_no x e0 w h
theorem sof_no (A:Option Addr) (n c:Nat) (l:List Int) (w:World) (h:Row w A n l) (hm:n≤9223372036854775807) (h0:LE l≠0) :
  Calls Tryz.prog 109 #[.slice A n c] w fun e w'=>e=.returned (.tuple #[.agg #[.int .i64 0,.int .i64 0,.int .i64 0],.int .i64 (LE l)])∧Below w.heap.size w w':=by
 have HLi:=Lib.hid (fun w' (h:Row w' A n l)=>list_le A n c l w' h hm)
 have HR:=Lib.hid h
 have qa:=alloc_cells
 have qf:=alloc_frozens
 obtain ⟨e0,he⟩:∃ e,LE l=e:=⟨_,rfl⟩
 rw [he] at HLi h0 ⊢
 have hd:(e0 != 0)=true:=by simpa using h0
 clear h he h0
 go_enter Tryz.func109,Tryz.ntmps109
 have hb0:Below w.heap.size w (w.alloc (.cells #[.int .i64 0,.int .i64 0,.int .i64 0] 93)):=(Below.refl _ _).alloc (Nat.le_refl _) _
 have hR0:=HR.out.below hb0
 go_wp2_with fail
 refine (HLi.out _ hR0).mono ?_
 rintro e w1 ⟨rfl,hb1⟩
 have hbw:Below w.heap.size w w1:=hb0.trans (hb1.mono (by simp))
 have c1:=Below.cells hb1
 have f1:=Below.frozens hb1
 have z1:=hb1.size
 simp only [World.size_alloc] at c1 f1 z1
 go_wp2_with fail
 refine bodyPost_ret (v:=.tuple #[.agg #[.int .i64 0,.int .i64 0,.int .i64 0],.int .i64 e0]) (by simp [results,Tryz.results109,go_sem,↓IntWalk.iteOmega, *]) rfl ?_
 exact ⟨rfl,(by repeat (first | (with_reducible exact Below.refl _ _) | (with_reducible refine bAl ?_ _) | (with_reducible refine bSc ?_ _) | (with_reducible refine Below.drew ?_) | (refine Below.trans ?_ (by assumption))))⟩
theorem dsums_ok (A:Option Addr) (n c:Nat) (l:List Int) (w:World) (h:Row w A n l) (h0:LE l=0) :
  Calls Tryz.prog 57 #[.slice A n c] w fun e w'=>e=.returned (.agg #[.int .i64 n,.int .i64 (sumI l),.int .i64 (sqI l)])∧Below w.heap.size w w':=by
 obtain ⟨h64,hb⟩:=LE_ok h0
 have hl:=h.1
 have HS:=Lib.hid (fun w' (h:Row w' A n l)=>sof_ok A n c l (sumI l) (sqI l) w' h (by omega) hb rfl rfl)
 have HM:=Lib.hid (fun w'=>must_ok w')
 have HR:=Lib.hid h
 have qa:=alloc_cells
 have qf:=alloc_frozens
 obtain ⟨s,hs⟩:∃ s,sumI l=s:=⟨_,rfl⟩
 obtain ⟨q,hq⟩:∃ s,sqI l=s:=⟨_,rfl⟩
 rw [hs,hq] at HS ⊢
 clear h h0 hb hs hq
 go_enter Tryz.func57,Tryz.ntmps57
 have hb0:Below w.heap.size w (w.alloc (.cells #[.int .i64 0,.int .i64 0,.int .i64 0] 93)):=(Below.refl _ _).alloc (Nat.le_refl _) _
 have hR0:=HR.out.below hb0
 go_wp2_with fail
 refine (HS.out _ hR0).mono ?_
 rintro e w1 ⟨rfl,hb1⟩
 have hbw:Below w.heap.size w w1:=hb0.trans (hb1.mono (by simp))
 have c1:=Below.cells hb1
 have f1:=Below.frozens hb1
 have z1:=hb1.size
 simp only [World.size_alloc] at c1 f1 z1
 go_wp2_with fail
 refine (HM.out _).mono ?_
 rintro e w2 ⟨rfl,hb2⟩
 have z2:=hb2.size
 have c2:=Below.cells hb2
 have f2:=Below.frozens hb2
 try simp only [World.size_alloc,World.size_setCell,World.size_drew] at z2 c2 f2
 go_wp2_with fail
 go_wp2_with fail
 refine bodyPost_ret (v:=.agg #[.int .i64 n,.int .i64 s,.int .i64 q]) (by simp [results,Tryz.results57,go_sem,↓IntWalk.iteOmega, *]) rfl ?_
 exact ⟨rfl,(by repeat (first | (with_reducible exact Below.refl _ _) | (with_reducible refine bAl ?_ _) | (with_reducible refine bSc ?_ _) | (with_reducible refine Below.drew ?_) | (with_reducible refine bTm ?_ hb2) | (with_reducible refine bTm ?_ hbw)))⟩
theorem dsums_no (A:Option Addr) (n c:Nat) (l:List Int) (w:World) (h:Row w A n l) (hm:n≤9223372036854775807) (h0:LE l≠0) :
  Calls Tryz.prog 57 #[.slice A n c] w fun e w'=>e=Fault (LE l)∧Below w.heap.size w w':=by
 have HS:=Lib.hid (fun w' (h:Row w' A n l)=>sof_no A n c l w' h hm h0)
 have HM:=Lib.hid (fun w'=>must_no (LE l) w' h0)
 have HR:=Lib.hid h
 have qa:=alloc_cells
 have qf:=alloc_frozens
 obtain ⟨e0,he⟩:∃ e,LE l=e:=⟨_,rfl⟩
 rw [he] at HS HM ⊢
 clear h h0 he
 go_enter Tryz.func57,Tryz.ntmps57
 have hb0:Below w.heap.size w (w.alloc (.cells #[.int .i64 0,.int .i64 0,.int .i64 0] 93)):=(Below.refl _ _).alloc (Nat.le_refl _) _
 have hR0:=HR.out.below hb0
 go_wp2_with fail
 refine (HS.out _ hR0).mono ?_
 rintro e w1 ⟨rfl,hb1⟩
 have hbw:Below w.heap.size w w1:=hb0.trans (hb1.mono (by simp))
 have z1:=hbw.size
 go_wp2_with fail
 refine (HM.out _).mono ?_
 rintro e w3 ⟨rfl,hb3⟩
 exact ⟨rfl,rfl,(hbw.alloc z1 _).trans (hb3.mono (by simp;omega))⟩
end Go.Proofs.YtnaebigoknfndaaGreatDoor
namespace Go.Proofs.YtnaebigoknfndaaGreatDoor
open Go Go.RowKit
structure DSt where
 n:Nat
 C:Nat→Cfg
 town:Option TSt
def TPart (w:World) (tp:Option Addr) (T:Option TSt) (ft:Nat→Prop):Prop:=
 match T with
 | none=>tp=none∧∀ x,¬ ft x
 | some T=>∃ t,tp=some ⟨t,0,none⟩∧TAny w t T ft
def DRep (w:World) (d:Nat) (S:DSt) (f:Nat→Prop):Prop:=
 ∃ tp nv ft,w.heap[d]? = some (.cells #[.pointer tp,nv] 37 (0,0))∧(w.ownsRow 10 106 5 nv S.n (cfgV S.C S.n)∧(S.n=0→nv=.slice none 0 0))∧TPart w tp S.town ft∧f d ∧
  (∀ g,nv.ownBlock=some g→f g∧g≠d)∧(∀ x,ft x→f x∧x≠d∧nv.ownBlock≠some x)∧∀ x,f x→10≤x∧x<w.heap.size
structure DOK (S:DSt):Prop where
 n:S.n≤5
 C:∀ j,j<S.n→CfgOK (S.C j)
 ne:∀ i j,i<S.n→j<S.n→(S.C i).id=(S.C j).id→i=j
 town:∀ T,S.town=some T→TownOK T
variable {w w1:World} {d:Nat} {S:DSt} {f:Nat→Prop}
theorem DRep.lt (h:DRep w d S f):∀ x,f x→10≤x∧x<w.heap.size:=by obtain ⟨_,_,_,_,_,_,_,_,_,h⟩:=h;exact h
theorem DRep.fd (h:DRep w d S f):f d:=by obtain ⟨_,_,_,_,_,_,h,_⟩:=h;exact h
theorem TPart.same {tp:Option Addr} {T:Option TSt} {ft:Nat→Prop} (h:TPart w tp T ft) (hs:Same ft w w1):TPart w1 tp T ft:=by
 unfold TPart at *
 cases T with
 | none=>exact h
 | some T=>
  obtain ⟨t,h1,h2⟩:=h
  exact ⟨t,h1,h2.same hs⟩
theorem DRep.same (h:DRep w d S f) (hs:Same f w w1):DRep w1 d S f:=by
 obtain ⟨tp,nv,ft,h1,h2,h3,h4,h5,h6,h7⟩:=h
 exact ⟨tp,nv,ft,(hs.2 d (h7 d h4).2 h4).trans h1,⟨own_same h2.1 (fun g hg=>(h5 g hg).1) hs,h2.2⟩,h3.same ⟨hs.1,fun x hx hfx=>hs.2 x hx (h6 x hfx).1⟩,h4,h5,h6,fun x hx=>⟨(h7 x hx).1,Nat.lt_of_lt_of_le (h7 x hx).2 hs.1⟩⟩
theorem DRep.below (h:DRep w d S f) (hb:Below w.heap.size w w1):DRep w1 d S f:=h.same (Same.of_below hb)
theorem GOK.kept (g:GOK w) (hk:Kept f w w1) (hf:∀ x,f x→10≤x):GOK w1:=g.same hk.size fun x hx=>hk.block x (by have:=g.low;omega) (fun h=>by have:=hf x h;omega)
def Done (o:Out) (d:Nat) (S':DSt) (f:Nat→Prop) (w:World) (e:Ending) (w':World):Prop:=e=o.e∧∃ f',DRep w' d S' f'∧(∀ x,f' x→f x∨w.heap.size≤x)∧Kept f w w'
theorem Done.below {o:Out} {e:Ending} (h:DRep w d S f) (he:e=o.e) (hb:Below w.heap.size w w1):Done o d S f w e w1:=⟨he,f,h.below hb,fun x hx=>.inl hx,Kept.of_below hb⟩
theorem DRep.town {T:TSt} (h:DRep w d S f) (hT:S.town=some T):∃ t ft,w.cell? ⟨d,0,none⟩=some (.pointer (some ⟨t,0,none⟩))∧d<w.heap.size∧TAny w t T ft∧(∀ x,ft x→f x∧x≠d) ∧
  ∀ w' T' ft',TAny w' t T' ft'→(∀ x,ft' x→ft x∨w.heap.size≤x)→Kept ft w w'→(∃ f',DRep w' d { S with town:=some T' } f'∧∀ x,f' x→f x∨w.heap.size≤x)∧Kept f w w':=by
 obtain ⟨tp,nv,ft,h1,h2,h3,h4,h5,h6,h7⟩:=h
 rw [hT] at h3
 obtain ⟨t,rfl,h3⟩:=h3
 refine ⟨t,ft,by simp [World.cell?,h1],(h7 d h4).2,h3,fun x hx=>⟨(h6 x hx).1,(h6 x hx).2.1⟩,fun w' T' ft' k1 k2 k3=>⟨⟨fun x=>f x∨ft' x,⟨some ⟨t,0,none⟩,nv,ft',?_,?_,⟨t,rfl,k1⟩,.inl h4,fun g hg=>⟨.inl (h5 g hg).1,(h5 g hg).2⟩,fun x hx=>⟨.inr hx,?_,?_⟩,fun x hx=>?_⟩,fun x hx=>?_⟩,?_⟩⟩
 ·rw [k3.block d (h7 d h4).2 (fun e=>(h6 d e).2.1 rfl)];exact h1
 ·refine ⟨?_,h2.2⟩
  exact own_same (f:=fun x=>nv.ownBlock=some x) h2.1 (fun g hg=>hg) ⟨k3.size,fun x hx hg=>k3.block x hx (fun e=>(h6 x e).2.2 hg)⟩
 ·rcases k2 x hx with h | h
  ·exact (h6 x h).2.1
  ·have:=(h7 d h4).2;omega
 ·intro hg
  rcases k2 x hx with h | h
  ·exact (h6 x h).2.2 hg
  ·have:=(h7 x (h5 x hg).1).2;omega
 ·rcases hx with hx | hx
  ·exact ⟨(h7 x hx).1,Nat.lt_of_lt_of_le (h7 x hx).2 k3.size⟩
  ·refine ⟨?_,k1.lt x hx⟩
   rcases k2 x hx with h | h
   ·exact (h7 x (h6 x h).1).1
   ·have:=h7 d h4;omega
 ·rcases hx with hx | hx
  ·exact .inl hx
  ·rcases k2 x hx with h | h
   ·exact .inl (h6 x h).1
   ·exact .inr h
 ·exact ⟨k3.os,k3.tape,k3.output,k3.size,fun x hx hfx=>k3.block x hx (fun e=>hfx (h6 x e).1)⟩
theorem DRep.none (h:DRep w d S f) (hT:S.town=none):w.cell? ⟨d,0,none⟩=some (.pointer none)∧d<w.heap.size:=by
 obtain ⟨tp,nv,ft,h1,h2,h3,h4,h5,h6,h7⟩:=h
 rw [hT] at h3
 obtain ⟨rfl,_⟩:=h3
 exact ⟨by simp [World.cell?,h1],(h7 d h4).2⟩
theorem there_ok {a:Addr} (hc:w.cell? ⟨d,0,none⟩=some (.pointer (some a))) (hd:d<w.heap.size) :
  Calls Tryz.prog 79 #[.pointer (some ⟨d,0,none⟩)] w fun e w'=>e=.returned (.tuple #[])∧Below w.heap.size w w':=by
 go_enter Tryz.func79,Tryz.ntmps79
 go_wp2_with fail
 go_end0
 exact ⟨rfl,Below.refl _ _⟩
theorem there_no (hc:w.cell? ⟨d,0,none⟩=some (.pointer none)) (hd:d<w.heap.size) :
  Calls Tryz.prog 79 #[.pointer (some ⟨d,0,none⟩)] w fun e w'=>e=Fault 4∧Below w.heap.size w w':=by
 have HB:=Lib.hid (fun w'=>bad_ok 4 w')
 go_enter Tryz.func79,Tryz.ntmps79
 go_wp2_with fail
 refine (HB.out _).mono ?_
 rintro e w1 ⟨rfl,hb1⟩
 exact ⟨rfl,rfl,hb1⟩
noncomputable def notesO (N:List Note) (e0:Int):Out:=if e0=0 then .txt (notesT N) else .err e0
theorem notesO_ok {N:List Note} {e0:Int} (h:NotesOK N) (he:0≤e0∧e0≤11):OutOK (notesO N e0):=by
 unfold notesO
 split
 ·refine ⟨notesT_okT _ fun x hx=>(h.2 x hx).1,Nat.le_trans (notesT_size N (fun x hx=>?_)) (by have:=h.1;omega)⟩
  obtain ⟨h1,h2,h3⟩:=h.2 x hx
  have:=h1.2.1
  rw [byts_len] at this
  exact ⟨this,by omega,by omega⟩
 ·exact ⟨by omega,by omega⟩
theorem notes_any (A:Option Addr) (c:Nat) (N:List Note) (e0:Int) (w:World) (g:GOK w) (hr:NoteRow w A N.length N) (h:NotesOK N) :
  Calls Tryz.prog 82 #[.slice A N.length c,.int .i64 e0] w fun e w'=>e=(notesO N e0).e∧Below w.heap.size w w':=by
 unfold notesO
 by_cases h0:e0=0
 ·subst h0
  rw [if_pos rfl]
  refine notes_told A _ c N w g hr (by have:=h.1;omega) (fun x hx=>?_) rfl
  obtain ⟨h1,h2,h3⟩:=h.2 x hx
  have:=h1.2.1
  rw [byts_len] at this
  exact ⟨this,by omega,by omega⟩
 ·rw [if_neg h0];exact notes_no _ e0 w h0
end Go.Proofs.YtnaebigoknfndaaGreatDoor
namespace Go.Proofs.YtnaebigoknfndaaGreatDoor
open Go Go.RowKit
theorem bld_info:(Tryz.prog.info? 41).map (·.size)=some 2:=by kernel_rfl
theorem bcheck_used (b:Nat) (w:World) (h0:w.cell? ⟨b,0,none⟩=some (.pointer (some ⟨b,0,none⟩))) :
  Calls Tryz.prog 20 #[.pointer (some ⟨b,0,none⟩)] w fun e w'=>e=.returned (.tuple #[])∧w'=w:=by
 obtain ⟨j,hj,_⟩:=Option.map_eq_some_iff.1 bld_info
 go_enter Tryz.func20,Tryz.ntmps20
 go_wp2_with fail
 rw [Lib.run_neq_ptr_same w _ Tryz.underlying38 hj]
 go_wp2_with fail
 go_end0
 exact ⟨rfl,rfl⟩
theorem bcheck_fresh (b:Nat) (w:World) (h0:w.cell? ⟨b,0,none⟩=some (.pointer none)) (hsh:w.shape? b=some (41,2)) (hfz:w.frozen? ⟨b,0,none⟩=false) :
  Calls Tryz.prog 20 #[.pointer (some ⟨b,0,none⟩)] w fun e w'=>e=.returned (.tuple #[])∧w'=w.setCell ⟨b,0,none⟩ (.pointer (some ⟨b,0,none⟩)):=by
 obtain ⟨j,hj,hjs⟩:=Option.map_eq_some_iff.1 bld_info
 go_enter Tryz.func20,Tryz.ntmps20
 go_wp2_with fail
 rw [Lib.run_to_unsafe w ⟨b,0,none⟩ Tryz.underlying38 Tryz.underlying74 hj (by rw [hjs];decide) hsh (Nat.zero_lt_succ 1)]
 simp only [Result.andThen]
 rw [Oper.upon_value]
 go_wp2_with fail
 rw [run_callFunc_extern Tryz.func35 (by kernel_rfl) (by kernel_rfl) (by kernel_rfl) (e:=Extern.AbiNoEscape.same) (by kernel_rfl)]
 rw [Lib.run_noEscape]
 simp only [Result.andThen]
 rw [Oper.upon_value]
 go_wp2_with fail
 rw [Lib.run_from_unsafe w ⟨b,0,none⟩ Tryz.underlying74 Tryz.underlying38 hj hsh (by kernel_rfl)]
 simp only [Result.andThen]
 rw [Oper.upon_value]
 go_wp2_with fail
 go_end0
 exact ⟨rfl,rfl⟩
def BRep (w:World) (B o:Nat) (bs:List Value) (f:Nat→Prop):Prop:=
 ∃ p v,(p=Value.pointer none∨p=.pointer (some ⟨o,0,none⟩))∧w.heap[o]? = some (.cells #[p,v] 41 (0,0))∧w.ownsRow B 5 1 v bs.length bs∧f o∧(∀ g,v.ownBlock=some g→f g∧g≠o)∧∀ x,f x→B≤x∧x<w.heap.size
theorem BRep.same {w w1:World} {B o:Nat} {bs:List Value} {f:Nat→Prop} (h:BRep w B o bs f) (hs:Same f w w1):BRep w1 B o bs f:=by
 obtain ⟨p,v,h1,h2,h3,h4,h5,h6⟩:=h
 exact ⟨p,v,h1,(hs.2 o (h6 o h4).2 h4).trans h2,own_same h3 (fun g hg=>(h5 g hg).1) hs,h4,h5,fun x hx=>⟨(h6 x hx).1,Nat.lt_of_lt_of_le (h6 x hx).2 hs.1⟩⟩
theorem BRep.lt {w:World} {B o:Nat} {bs:List Value} {f:Nat→Prop} (h:BRep w B o bs f):∀ x,f x→B≤x∧x<w.heap.size:=by obtain ⟨_,_,_,_,_,_,_,h⟩:=h;exact h
theorem bcheck_any {w:World} {B o:Nat} {bs:List Value} {f:Nat→Prop} (h:BRep w B o bs f) :
  Calls Tryz.prog 20 #[.pointer (some ⟨o,0,none⟩)] w fun e w'=>e=.returned (.tuple #[])∧(∃ v,w'.heap[o]? = some (.cells #[.pointer (some ⟨o,0,none⟩),v] 41 (0,0))∧w'.ownsRow B 5 1 v bs.length bs∧(∀ g,v.ownBlock=some g→f g∧g≠o))∧w'.heap.size=w.heap.size∧Kept f w w':=by
 obtain ⟨p,v,h1,h2,h3,h4,h5,h6⟩:=h
 rcases h1 with rfl | rfl
 ·refine (bcheck_fresh o w (by simp [World.cell?,h2]) (by simp [World.shape?,h2]) (by simp [World.frozen?,h2])).mono ?_
  rintro e w' ⟨rfl,rfl⟩
  refine ⟨rfl,⟨v,by simp [World.setCell,Array.getElem?_modify,h2],own_elsewhere h3 (fun e=>(h5 o e).2 rfl) _ _,h5⟩,by simp [World.setCell],(Kept.refl f w).set h4 _ _⟩
 ·refine (bcheck_used o w (by simp [World.cell?,h2])).mono ?_
  rintro e w' ⟨rfl,rfl⟩
  exact ⟨rfl,⟨v,h2,h3,h5⟩,rfl,Kept.refl _ _⟩
theorem append_str_at (w:World) (base:Nat) (t u ty e:TypeId) (i:TypeInfo) (ht:Tryz.prog.underlying t=some (.slice e)) (hu:Tryz.prog.underlying u=some .string) (hi:Tryz.prog.info? e=some i) (hz:i.zero=some (.int .u8 0))
  (hsize:i.size=1) (hby:i.bytes=1) (v:Value) (n:Nat) (xs:List Value) (hown:w.ownsRow base e 1 v n xs) (s:ByteArray)
  (h63:n+s.size≤maxLen) (hbytes:n+s.size≤140737488355328) (hbase:base≤w.heap.size) :
  ∃ v' w',(Builtin.append_ #[t,u] ty #[v,.string s]).run Tryz.prog w=.ok v' w'∧w'.ownsRow base e 1 v' (n+s.size) (xs++Lib.strCells s)∧w.grownBy w' v.ownBlock∧(v'.ownBlock=v.ownBlock∨v'.ownBlock=some w.heap.size):=by
 obtain ⟨v',w',h1,h2,h3,h4⟩:=Lib.run_append_own_string (P:=Tryz.prog) w base t u ty e i ht hu hi hz hsize hby v n xs hown s h63 hbytes hbase
 refine ⟨v',w',h1,h2,h3,?_⟩
 rcases hown.2 with ⟨rfl,rfl⟩ | ⟨g,cap,cur,rfl,hbg,hg,hnc,hcm,hcs,htake⟩
 ·by_cases hm:s.size=0
  ·left
   rw [h4.2 ⟨rfl,hm⟩]
  ·right
   have hr:=run_append_nil_string (P:=Tryz.prog) w t u ty e i (.int .u8 0) ht hu hi hz s (by omega) (by simp only [maxLen] at h63;omega) (by rw [hby];omega)
   rw [hr] at h1
   simp only [Result.ok.injEq] at h1
   rw [← h1.1]
   rfl
 ·have hxl:xs.length=n:=by simpa using hown.1
  by_cases hroom:n+s.size≤cap
  ·left
   have hcs':cur.size=cap:=by simpa using hcs
   have hr:=Lib.run_append_room_string (P:=Tryz.prog) w t u ty e i ht hu hi hsize g n cap cur hg s hroom (by omega)
   rw [hr] at h1
   simp only [Result.ok.injEq] at h1
   rw [← h1.1]
   rfl
  ·right
   have holds:∀ j u,xs[j]? = some u→w.cell? ((⟨g,0,none⟩:Addr).add j)=some u:=hown.cells (g:=g) rfl
   have hr:=Lib.run_append_grow_string (P:=Tryz.prog) w t u ty e i (.int .u8 0) ht hu hi hz ⟨g,0,none⟩ n cap xs (by rw [hsize];simpa using hxl) holds s (by omega) (by simp only [maxLen] at h63;omega) (by rw [hby];exact growslice_fits (by omega) (by omega))
   rw [hr] at h1
   simp only [Result.ok.injEq] at h1
   rw [← h1.1]
   rfl
theorem wpList_append_str_at {w:World} {ops:Array Oper} {rest:List Oper} {o:Oper} {a:Act} {Q:Exit→Act→World→Prop} (hgd:o.guard=none) (sl x:Operand) (t u:TypeId)
  (ho:o.op=.call { callee:=.builtin .append,args:=#[sl,x],argTypes:=#[t,u] })
  (base:Nat) (e:TypeId) (i:TypeInfo) (ht:Tryz.prog.underlying t=some (.slice e)) (hu:Tryz.prog.underlying u=some .string) (hi:Tryz.prog.info? e=some i) (hz:i.zero=some (.int .u8 0))
  (hsize:i.size=1) (hby:i.bytes=1)
  (v:Value) (n:Nat) (xs:List Value) (hs:a.eval sl=v) (hown:w.ownsRow base e 1 v n xs) (s:ByteArray) (hx:a.eval x=.string s)
  (h63:n+s.size≤maxLen) (hbytes:n+s.size≤140737488355328) (hbase:base≤w.heap.size)
  (h:∀ v' w',w'.ownsRow base e 1 v' (n+s.size) (xs++Lib.strCells s)→w.grownBy w' v.ownBlock→(v'.ownBlock=v.ownBlock∨v'.ownBlock=some w.heap.size)→wpList Tryz.prog ops Q rest (a.put o.dst v') w'):wpList Tryz.prog ops Q (o :: rest) a w:=by
 refine wpList_plain hgd fun K hK=>?_
 obtain ⟨v',w',hr,h2,h3,h4⟩:=append_str_at w base t u o.type e i ht hu hi hz hsize hby v n xs hown s h63 hbytes hbase
 unfold Oper.wp execOp
 simp only [ho,resolve,invoke,builtin,Sem.run_bind,Sem.run_pure,Result.andThen_ok,List.map_toArray,List.map_cons,List.map_nil,hs,hx,hr]
 exact hK _ _ (h v' w' h2 h3 h4)
theorem bend {w w1 w2:World} {B o n:Nat} {bs xs:List Value} {f:Nat→Prop} {v v':Value} (hlt:∀ x,f x→B≤x∧x<w.heap.size) (hfo:f o) (z1:w1.heap.size=w.heap.size) (k1:Kept f w w1)
  (hn:n=(bs++xs).length) (own2:w2.ownsRow B 5 1 v' n (bs++xs)) (gr:w1.grownBy w2 v.ownBlock) (ob1:∀ g,v.ownBlock=some g→f g∧g≠o) (at2:∀ g,v'.ownBlock=some g→v.ownBlock=some g∨w.heap.size≤g)
  (F2:w2.heap[o]? = some (.cells #[.pointer (some ⟨o,0,none⟩),v] 41 (0,0))) :
  ∃ f',BRep (w2.setCell ⟨o,1,none⟩ v') B o (bs++xs) f'∧(∀ x,f' x→f x∨w.heap.size≤x)∧Kept f w (w2.setCell ⟨o,1,none⟩ v'):=by
 subst hn
 have hz:=gr.size
 have hat:∀ g,v'.ownBlock=some g→g≠o:=fun g hg e=>by
  subst e
  rcases at2 g hg with h | h
  ·exact (ob1 g h).2 rfl
  ·have:=(hlt g hfo).2;omega
 have k2:Kept f w w2:=⟨gr.os.trans k1.os,gr.tape.trans k1.tape,gr.output.trans k1.output,by omega,fun x hx hf=>(gr.block x (by omega) (fun e=>hf (ob1 x e.symm).1)).trans (k1.block x hx hf)⟩
 refine ⟨fun x=>f x∨v'.ownBlock=some x,⟨_,v',.inr rfl,by simp [World.setCell,Array.getElem?_modify,F2],own_elsewhere own2 (fun e=>hat o e rfl) _ _,.inl hfo,fun g hg=>⟨.inr hg,hat g hg⟩,fun x hx=>?_⟩,fun x hx=>?_,k2.set hfo _ _⟩
 ·rcases hx with hx | hx
  ·have:=hlt x hx
   exact ⟨this.1,by simp [World.setCell];omega⟩
  ·have:=own2.lt x hx
   exact ⟨this.1,by simpa [World.setCell] using this.2⟩
 ·rcases hx with hx | hx
  ·exact .inl hx
  ·rcases at2 x hx with h | h
   ·exact .inl (ob1 x h).1
   ·exact .inr h
theorem bwrite_str {w:World} {B o:Nat} {bs:List Value} {f:Nat→Prop} (s:ByteArray) (h:BRep w B o bs f) (hB:B≤w.heap.size) (hlen:bs.length+s.size≤140737488355328) :
  Calls Tryz.prog 12 #[.pointer (some ⟨o,0,none⟩),.string s] w fun e w'=>e=.returned (.tuple #[.int .i64 s.size,.nilIface])∧∃ f',BRep w' B o (bs++Lib.strCells s) f'∧(∀ x,f' x→f x∨w.heap.size≤x)∧Kept f w w':=by
 obtain ⟨i0,hi0,hz0,hz1,hz2⟩:=info_parts info_u8
 have HC:=Lib.hid (bcheck_any h)
 have hlt:=h.lt
 have hfo:f o:=by obtain ⟨_,_,_,_,_,h,_⟩:=h;exact h
 have HLt:=Lib.hid hlt
 clear h hlt
 go_enter Tryz.func12,Tryz.ntmps12
 go_wp2_with fail
 refine HC.out.mono ?_
 rintro e w1 ⟨rfl,⟨v,e1,own1,ob1⟩,z1,k1⟩
 have c0:w1.cell? ⟨o,0,none⟩=some (.pointer (some ⟨o,0,none⟩)):=by simp [World.cell?,e1]
 have c1:w1.cell? ⟨o,1,none⟩=some v:=by simp [World.cell?,e1]
 have E1:=Lib.hid e1
 have OB1:=Lib.hid ob1
 have K1:=Lib.hid k1
 have O1:=Lib.hid own1
 clear e1 ob1 k1 own1
 go_wp2_with (at_builtin;refine wpList_append_str_at rfl _ _ 39 9 rfl B 5 i0 Tryz.underlying39 Tryz.underlying9 hi0 hz0 hz1 hz2 _ _ _ rfl O1.out s rfl ?c3 ?c4 ?c5 ?_)
 case c3=>unfold maxLen;omega
 case c4=>omega
 case c5=>omega
 intro v' w2 own2 gr2 at2
 obtain ⟨A2,c2,rfl,-,-,-⟩:=own_form own2
 have O2:=Lib.hid own2
 have G2:=Lib.hid gr2
 have L2:=Lib.hid at2
 have F2:w2.heap[o]? = some (.cells #[.pointer (some ⟨o,0,none⟩),v] 41 (0,0)):=by
  refine (gr2.block o (by rw [z1];exact (HLt.out o hfo).2) ?_).trans E1.out
  intro e
  exact (OB1.out o e.symm).2 rfl
 have d1:w2.cell? ⟨o,1,none⟩=some v:=by simp [World.cell?,F2]
 have d2:w2.frozen? ⟨o,1,none⟩=false:=by simp [World.frozen?,F2]
 have F2h:=Lib.hid F2
 clear own2 gr2 at2 F2 c0 c1
 go_wp2_with fail
 refine bodyPost_ret (v:=.tuple #[.int .i64 s.size,.nilIface]) (by simp [results,Tryz.results12,go_sem]) rfl ?_
 refine ⟨rfl,bend HLt.out hfo z1 K1.out (by rw [List.length_append,Lib.strCells_length]) O2.out G2.out OB1.out (fun g hg=>?_) F2h.out⟩
 rcases L2.out with h | h
 ·exact .inl (h ▸ hg)
 ·right
  rw [h] at hg
  injection hg with hg
  omega
theorem bwrite_byte {w:World} {B o:Nat} {bs:List Value} {f:Nat→Prop} (x:Nat) (h:BRep w B o bs f) (hB:B≤w.heap.size) (hlen:bs.length+1≤140737488355328) :
  Calls Tryz.prog 14 #[.pointer (some ⟨o,0,none⟩),.int .u8 x] w fun e w'=>e=.returned .nilIface∧∃ f',BRep w' B o (bs ++ [.int .u8 x]) f'∧(∀ x,f' x→f x∨w.heap.size≤x)∧Kept f w w':=by
 obtain ⟨i0,hi0,hz0,hz1,hz2⟩:=info_parts info_u8
 have HC:=Lib.hid (bcheck_any h)
 have hlt:=h.lt
 have hfo:f o:=by obtain ⟨_,_,_,_,_,h,_⟩:=h;exact h
 have HLt:=Lib.hid hlt
 clear h hlt
 go_enter Tryz.func14,Tryz.ntmps14
 go_wp2_with fail
 refine HC.out.mono ?_
 rintro e w1 ⟨rfl,⟨v,e1,own1,ob1⟩,z1,k1⟩
 have c0:w1.cell? ⟨o,0,none⟩=some (.pointer (some ⟨o,0,none⟩)):=by simp [World.cell?,e1]
 have c1:w1.cell? ⟨o,1,none⟩=some v:=by simp [World.cell?,e1]
 have E1:=Lib.hid e1
 have OB1:=Lib.hid ob1
 have K1:=Lib.hid k1
 have O1:=Lib.hid (own1.alloc (.cells #[.int .u8 x] 5))
 have Z1:=Lib.hid z1
 have hB1:B≤w1.heap.size:=by rw [z1];exact hB
 clear e1 ob1 k1 own1 z1
 go_wp2_with (at_builtin;refine wpList_append_own_at _ rfl _ _ 39 rfl B 5 i0 (.int .u8 0) 1 1 Tryz.underlying39 hi0 hz0 hz1 hz2 rfl (by decide) _ _ _ rfl O1.out ⟨w1.heap.size,0,none⟩ 1 1 [.int .u8 x] rfl rfl (cell_one_new _ _ _) (app1_one _ _) ?c3 ?c4 ?c5 ?_)
 case c3=>unfold maxLen;omega
 case c4=>omega
 case c5=>simp;omega
 intro v' w2 own2 gr2 hx2 at2
 obtain ⟨A2,c2,rfl,-,-,-⟩:=own_form own2
 have O2:=Lib.hid own2
 have G2:=Lib.hid ((World.grownBy_alloc w1 (.cells #[.int .u8 x] 5) v.ownBlock).trans gr2)
 have L2:=Lib.hid at2
 have F2:w2.heap[o]? = some (.cells #[.pointer (some ⟨o,0,none⟩),v] 41 (0,0)):=by
  refine (G2.out.block o (by rw [Z1.out];exact (HLt.out o hfo).2) ?_).trans E1.out
  intro e
  exact (OB1.out o e.symm).2 rfl
 have d1:w2.cell? ⟨o,1,none⟩=some v:=by simp [World.cell?,F2]
 have d2:w2.frozen? ⟨o,1,none⟩=false:=by simp [World.frozen?,F2]
 have F2h:=Lib.hid F2
 clear own2 gr2 at2 hx2 F2 c0 c1
 go_wp2_with fail
 go_ret
 refine ⟨rfl,bend HLt.out hfo Z1.out K1.out (by simp) O2.out G2.out OB1.out (fun g hg=>?_) F2h.out⟩
 rcases L2.out with h | h
 ·exact .inl (h ▸ hg)
 ·right
  rw [h] at hg
  injection hg with hg
  have:=Z1.out
  have:(w1.alloc (.cells #[.int .u8 x] 5)).heap.size=w1.heap.size+1:=by simp
  omega
end Go.Proofs.YtnaebigoknfndaaGreatDoor
namespace Go.Proofs.YtnaebigoknfndaaGreatDoor
open Go Go.RowKit
theorem flt_under:∃ fs,Tryz.prog.underlying 56=some (.struct fs):=⟨_,Tryz.underlying56⟩
theorem catch_fault (p:Nat) (s0:ByteArray) (e0:Int) (w:World) (g:GOK w) (he : -9223372036854775808≤e0∧e0≤9223372036854775807) (hc:w.cell? ⟨p,0,none⟩=some (.string s0)) (hz:w.frozen? ⟨p,0,none⟩=false) (hp:p<w.heap.size) :
  CallsD Tryz.prog 21 #[.pointer (some ⟨p,0,none⟩)] (.panicking [{ v:=fltV e0,recovered:=false }]) w fun e u' w'=>
   e=.returned (.tuple #[])∧u'=.panicking [{ v:=fltV e0,recovered:=true }]∧∃ w1,Below w.heap.size w w1∧w'=w1.setCell ⟨p,0,none⟩ (.string (errB++itoB e0)):=by
 have hta:∀ (v:Value) (w':World),(Instr.typeAssert (.iface 56 v) 20 56 true).run Tryz.prog w'=.ok (.tuple #[v,.bool true]) w':=fun v w'=>by
  obtain ⟨fs,hfs⟩:=flt_under
  simp [Instr.typeAssert,run_underlying hfs,Result.andThen]
 have qa:=alloc_cells
 have qf:=alloc_frozens
 have HI:=Lib.hid (fun w' (h:Below w.heap.size w w')=>itoa_any e0 he.1 he.2 w' (g.below h g.low))
 unfold fltV
 refine callsD_of_wpS Tryz.func21 rfl fun c₀ cs hu=>?_
 apply wpS_seq
 apply wpS_region
 simp [wpOpsS,go_sem,recoverD,hu,Tryz.ntmps21,Exit.thenS]
 refine wpS_of_wp ?_
 simp only [Array.replicate_succ,Array.replicate_zero,List.push_toArray,List.append_toArray,List.nil_append,List.cons_append,List.setIfInBounds_toArray,List.set_cons_zero,List.set_cons_succ]
 go_wp2_with fail
 have hba:Below w.heap.size w (w.alloc (.cells #[.int .i64 e0] 56)):=(Below.refl _ _).alloc (Nat.le_refl _) _
 refine (HI.out _ hba).mono ?_
 rintro e w1 ⟨rfl,hb1⟩
 have hbw:Below w.heap.size w w1:=hba.trans (hb1.mono hba.size)
 have hc1:=(hbw.cell (p:=⟨p,0,none⟩) hp).trans hc
 have hz1:=(hbw.frozen (p:=⟨p,0,none⟩) hp).trans hz
 obtain ⟨I,hI⟩:∃ I,itoB e0=I:=⟨_,rfl⟩
 have zi:=itoB_size he
 rw [hI] at zi
 obtain ⟨A1,a1⟩:∃ z,ByteArray.mk #[101,114,114,111,114,32]++I=z:=⟨_,rfl⟩
 have z6:(ByteArray.mk #[101,114,114,111,114,32]).size=6:=rfl
 have p1:=strAdd (show (ByteArray.mk #[101,114,114,111,114,32]).size+I.size≤1000000 by omega) a1
 have HA:=Lib.hid (show errB++itoB e0=A1 by rw [hI,← a1];rfl)
 rw [hI]
 have HBW:=Lib.hid hbw
 clear hbw hb1 hba a1 hI hc hz zi z6
 go_wp2_with fail
 rw [HA.out]
 cases c₀
 simp_all [bodyPostS,results,Tryz.results21]
 exact ⟨w1,HBW.out,rfl⟩
theorem catch_idle (p:Nat) (w:World) :
  CallsD Tryz.prog 21 #[.pointer (some ⟨p,0,none⟩)] .returning w fun e u' w'=>e=.returned (.tuple #[])∧u'=.returning∧w'=w:=by
 refine callsD_of_wpS Tryz.func21 rfl fun c₀ cs hu=>?_
 apply wpS_seq
 apply wpS_region
 simp [wpOpsS,go_sem,recoverD,hu,Tryz.ntmps21,Exit.thenS]
 refine wpS_of_wp ?_
 simp only [Array.replicate_succ,Array.replicate_zero,List.push_toArray,List.append_toArray,List.nil_append,List.cons_append,List.setIfInBounds_toArray,List.set_cons_zero,List.set_cons_succ]
 go_wp2_with fail
 cases c₀
 simp_all [bodyPostS,results,Tryz.results21]
end Go.Proofs.YtnaebigoknfndaaGreatDoor

/- What the desk's two laws lean on: part 21 (contracts and plain laws; their conditions stand in each). -/
import Derived.Test.YtnaebigoknfndaaGreatDoorE01
import Derived.Test.YtnaebigoknfndaaGreatDoorE20
set_option linter.unusedVariables false
set_option linter.unusedSimpArgs false
set_option maxRecDepth 100000
set_option maxHeartbeats 20000000
namespace Go.Proofs.YtnaebigoknfndaaGreatDoor
open Go Go.RowKit Go.Maps
open Go.WideMaps (keyOf_string_mk)
theorem tnew_bad (n cl base J:Nat) (A:Option Addr) (C:Nat→Cfg) (e0:Int) (w:World) (own:w.ownsRow base 106 5 (.slice A n cl) n (cfgV C n)) (hn:1≤n∧n≤5) (hJ:J+1=n) (hC:∀ j,j<J→CfgOK (C j)) (hne:∀ i j,i<J→j<J→(C i).id=(C j).id→i=j) (hsz:(C J).id.size≤1048576) (hbad:cfgE (C J)≠0∧e0=cfgE (C J)) :
  Calls Tryz.prog 76 #[.slice A n cl] w fun e w'=>e=.returned (.tuple #[.pointer none,.int .i64 e0])∧Below w.heap.size w w':=by
 have HC:=Lib.hid (fun w' (o:w'.ownsRow base 106 5 (.slice A n cl) n (cfgV C n))=>cloneC_ok A n cl base C w' o (by omega))
 have HO:=Lib.hid own
 obtain ⟨ib,hib,hb0,hb1',hb2⟩:=info_parts info_bool
 have hmm:=@run_makeMap Tryz.prog
 obtain ⟨ip,hip,hp0,hp1,hp2⟩:=info_parts info_ptr
 have n5:¬ (5:Int)<n:=by omega
 have hJn:J<n:=by omega
 clear own
 go_enter Tryz.func76,Tryz.ntmps76
 go_upto_region 3 with fail
 go_cut [4] (fun v wc=>∃ (t ga gd ca:Nat),v=.pointer (some ⟨t,0,none⟩)∧wc.heap[t]? = some (.cells #[.slice (some ⟨ga,0,none⟩) n ca,.slice none 0 0,.slice (some ⟨gd,0,none⟩) n n,.slice none 0 0] 147 (0,0)) ∧
  wc.ownsRow w.heap.size 106 5 (.slice (some ⟨ga,0,none⟩) n ca) n (cfgV C n)∧wc.ownsRow w.heap.size 4 1 (.slice (some ⟨gd,0,none⟩) n n) n (madeCells (Value.bool false).cells (n * 1)).toList∧ga≠gd∧ga≠t∧gd≠t∧w.heap.size≤t∧Below w.heap.size w wc)
 case first=>
  have kk:(fun _:World=>True) w.drew:=trivial
  refine wp_region_M (fun _=>True) (fun _=>false) 8 rfl (by kernel_rfl) ?_
  (refine wpAnyM_tk (i:=0) (v:=?_) rfl (Or.inl ⟨by rfl,?_⟩) kk ?_;(rotate_left;(intro w hSw;(try dsimp only at hSw);go_simp;try with_reducible rfl));(try simp only [Act.put,List.setIfInBounds_toArray,List.set_cons_zero,List.set_cons_succ]))
  (refine wpAnyM_tk (i:=2) (v:=?_) rfl (Or.inl ⟨by rfl,?_⟩) kk ?_;(rotate_left;(intro w hSw;(try dsimp only at hSw);go_simp;try with_reducible rfl));(try simp only [Act.put,List.setIfInBounds_toArray,List.set_cons_zero,List.set_cons_succ]))
  (refine wpAnyM_tk (i:=3) (v:=?_) rfl (Or.inl ⟨by rfl,?_⟩) kk ?_;(rotate_left;(intro w hSw;(try dsimp only at hSw);go_simp;try with_reducible rfl));(try simp only [Act.put,List.setIfInBounds_toArray,List.set_cons_zero,List.set_cons_succ]))
  refine wpAnyM_two (i:=1) (j:=4) (by kernel_rfl) rfl rfl (fun K hK=>?_) (fun K hK=>?_)
  ·go_simp
   refine (HC.out w.drew HO.out).mono ?_
   rintro e w1 ⟨A1,c1,rfl,own1,hb1⟩
   have hbw:Below w.heap.size w w1:=(Below.drew (Below.refl _ w)).trans hb1
   have z1:w.heap.size≤w1.heap.size:=hbw.size
   obtain ⟨g1,rfl⟩:∃ g,A1=some ⟨g,0,none⟩:=by obtain ⟨g,h,_⟩:=cfg_at own1 (show 0<n by omega);exact ⟨g,h⟩
   have lg1:g1<w1.heap.size∧w.heap.size≤g1:=⟨(own1.lt g1 rfl).2,(own1.lt g1 rfl).1⟩
   go_simp
   refine hK _ _ (fun _=>trivial) ?_
   clear hK K
   refine wpAnyM_one (i:=4) (by kernel_rfl) rfl (fun K hK=>?_)
   refine wp_make_full _ _ 144 rfl w.heap.size 4 ib (.bool false) 1 Tryz.underlying144 hib hb0 hb1' n (by simp [Act.eval,Act.put]) (by simp [Act.eval,Act.put]) (by rw [hb2];omega) (by unfold maxLen;omega) z1 ?_
   intro w2 own2 gr2
   have hb2':=grownN_below gr2
   have z2:=hb2'.size
   have lg2:=(own2.lt _ rfl).2
   have O1:=own_below own1 hb2'
   refine hK _ _ (fun _=>trivial) ?_
   clear hK K
   have k2:(fun _:World=>True) w2:=trivial
   (refine wpAnyM_tk (i:=5) (v:=?_) rfl (Or.inl ⟨by rfl,?_⟩) k2 ?_;(rotate_left;(intro w hSw;(try dsimp only at hSw);go_simp;try with_reducible rfl));(try simp only [Act.put,List.setIfInBounds_toArray,List.set_cons_zero,List.set_cons_succ]))
   refine wpAnyM_one (i:=6) (by kernel_rfl) rfl (fun K hK=>?_)
   go_simp
   refine hK _ _ (fun _=>trivial) ?_
   clear hK K
   have k3:(fun _:World=>True) (w2.alloc (.cells #[.slice (some ⟨g1,0,none⟩) n c1,.slice none 0 0,.slice (some ⟨w1.heap.size,0,none⟩) n n,.slice none 0 0] 147)):=trivial
   (refine wpAnyM_tk (i:=7) (v:=?_) rfl (Or.inl ⟨by rfl,?_⟩) k3 ?_;(rotate_left;(intro w hSw;(try dsimp only at hSw);go_simp;try with_reducible rfl));(try simp only [Act.put,List.setIfInBounds_toArray,List.set_cons_zero,List.set_cons_succ]))
   refine wpAnyM_done (by kernel_rfl) ?_ _
   go_simp
   go_wp2_with fail
   go_meet
   case rel=>exact ⟨w2.heap.size,g1,w1.heap.size,c1,rfl,heap_alloc_new' _ _,O1.alloc _,own2.alloc _,by omega,by omega,by omega,by omega,(hbw.trans (hb2'.mono z1)).alloc (by omega) _⟩
  ·refine wp_make_full _ _ 144 rfl w.heap.size 4 ib (.bool false) 1 Tryz.underlying144 hib hb0 hb1' n (by simp [Act.eval,Act.put]) (by simp [Act.eval,Act.put]) (by rw [hb2];omega) (by unfold maxLen;omega) (Nat.le_refl _) ?_
   intro w1 own1 gr1
   have hb1':=grownN_below gr1
   have hbw:Below w.heap.size w w1:=(Below.drew (Below.refl _ w)).trans hb1'
   have z1:w.heap.size≤w1.heap.size:=hbw.size
   have lg1:w.heap.size<w1.heap.size:=(own1.lt _ rfl).2
   refine hK _ _ (fun _=>trivial) ?_
   clear hK K
   refine wpAnyM_one (i:=1) (by kernel_rfl) rfl (fun K hK=>?_)
   go_simp
   refine (HC.out w1 (own_below HO.out hbw)).mono ?_
   rintro e w2 ⟨A2,c2,rfl,own2,hb2⟩
   have z2:=hb2.size
   obtain ⟨g2,rfl⟩:∃ g,A2=some ⟨g,0,none⟩:=by obtain ⟨g,h,_⟩:=cfg_at own2 (show 0<n by omega);exact ⟨g,h⟩
   have lg2:g2<w2.heap.size∧w1.heap.size≤g2:=⟨(own2.lt g2 rfl).2,(own2.lt g2 rfl).1⟩
   have O1:=own_below own1 hb2
   have O2:=own_mono own2 z1
   go_simp
   refine hK _ _ (fun _=>trivial) ?_
   clear hK K
   have k2:(fun _:World=>True) w2:=trivial
   (refine wpAnyM_tk (i:=5) (v:=?_) rfl (Or.inl ⟨by rfl,?_⟩) k2 ?_;(rotate_left;(intro w hSw;(try dsimp only at hSw);go_simp;try with_reducible rfl));(try simp only [Act.put,List.setIfInBounds_toArray,List.set_cons_zero,List.set_cons_succ]))
   refine wpAnyM_one (i:=6) (by kernel_rfl) rfl (fun K hK=>?_)
   go_simp
   refine hK _ _ (fun _=>trivial) ?_
   clear hK K
   have k3:(fun _:World=>True) (w2.alloc (.cells #[.slice (some ⟨g2,0,none⟩) n c2,.slice none 0 0,.slice (some ⟨w.heap.size,0,none⟩) n n,.slice none 0 0] 147)):=trivial
   (refine wpAnyM_tk (i:=7) (v:=?_) rfl (Or.inl ⟨by rfl,?_⟩) k3 ?_;(rotate_left;(intro w hSw;(try dsimp only at hSw);go_simp;try with_reducible rfl));(try simp only [Act.put,List.setIfInBounds_toArray,List.set_cons_zero,List.set_cons_succ]))
   refine wpAnyM_done (by kernel_rfl) ?_ _
   go_simp
   go_wp2_with fail
   go_meet
   case rel=>exact ⟨w2.heap.size,g2,w.heap.size,c2,rfl,heap_alloc_new' _ _,O2.alloc _,O1.alloc _,by omega,by omega,by omega,by omega,(hbw.trans (hb2.mono z1)).alloc (by omega) _⟩
 case rest=>
  obtain ⟨t,ga,gd,ca,rfl,ht,ho1,ho2,ne1,ne2,ne3,htw,bel⟩:=hcut
  have tl:t<wc.heap.size:=(Array.getElem?_eq_some_iff.1 ht).1
  have gal:=ho1.lt ga rfl
  have gdl:=ho2.lt gd rfl
  have ab:Below wc.heap.size wc (wc.alloc (.map #[] 0)):=(Below.refl _ _).alloc (Nat.le_refl _) _
  have M0:=Lib.hid (MapB.made 9 wc)
  have T5:=Lib.hid ((ab.block t tl).trans ht)
  have OA:=Lib.hid (own_below ho1 ab)
  have OD:=Lib.hid (own_below ho2 ab)
  have B5:=Lib.hid (bel.trans (ab.mono bel.size))
  obtain ⟨B,hB⟩:∃ B,wc.heap.size=B:=⟨_,rfl⟩
  have hBw:w.heap.size≤B:=by rw [← hB];exact bel.size
  have z5:(wc.alloc (.map #[] 0)).heap.size=B+1:=by simp [hB]
  rw [hB] at M0 tl gal gdl
  clear ht ho1 ho2 bel ab
  go_wp2_with fail
  clear hB
  generalize wc.alloc (.map #[] 0)=w5 at M0 T5 OA OD B5 z5 ⊢
  have z5':w.heap.size≤w5.heap.size∧t<w5.heap.size∧B<w5.heap.size:=by omega
  have tB:t≠B:=by omega
  clear z5
  go_loopw [27] (fun i wr=>∃ (k m:Nat) (nv:Value) (bs:Nat→Nat) (F:Value→Bool),k≤J∧i=.int .i64 k∧wr.heap[t]? = some (.cells #[.slice (some ⟨ga,0,none⟩) n ca,nv,.slice (some ⟨gd,0,none⟩) n n,.slice none 0 0] 147 (0,0)) ∧
   wr.ownsRow w.heap.size 149 1 nv k ((List.range k).map fun j=>.pointer (some ⟨bs j,0,none⟩))∧(∀ j,j<k→NodeAt wr (bs j) (C j).id 0 (C j).every (C j).cap (C j).least 0 0 0 (.slice none 0 0) (.slice none 0 0)∧w5.heap.size≤bs j)∧(∀ i j,i<k→j<k→bs i=bs j→i=j) ∧
   MapB 9 wr B m F∧m≤k∧((∀ i,k≤i→i<J→F (.string (C i).id)=false)∧∀ i,i<k→F (.string (C i).id)=true)∧(∀ q,nv.ownBlock=some q→w5.heap.size≤q∧∀ j,j<k→bs j≠q)∧Kept (fun x=>x=t∨x=B) w5 wr) (fun i _=>n - (intOf i).toNat)
  case atStart=>exact ⟨0,0,.slice none 0 0,fun _=>0,_,Nat.zero_le _,rfl,T5.out,World.ownsRow_nil _ _ _ _,fun j hj=>absurd hj (by omega),fun i j hi=>absurd hi (by omega),M0.out,Nat.le_refl _,⟨fun _ _ _=>rfl,fun i hi=>absurd hi (by omega)⟩,fun q hq=>by simp [Value.ownBlock] at hq,Kept.refl _ _⟩
  case round=>
   obtain ⟨k,m,nv,bs,F,hk,rfl,ht,hown,hnd,hinj,hM,hm,hF,hnv,hkept⟩:=hrel
   have sz0:=hkept.size
   by_cases hltJ:k<J
   ·have hlt:k<n:=by omega
    obtain ⟨gl,rfl,gll,_,hcf⟩:=cfg_at HO.out hlt
    have hcell:∀ i,i<5→wr.cell? ⟨gl,k * 5+i,none⟩=(cfC (C k))[i]?:=fun i hi=>by
     rw [← hcf i hi,World.cell?_of_block (a:=⟨gl,k * 5+i,none⟩) (hkept.block gl (by omega) (fun h=>by omega)),World.cell?_of_block (a:=⟨gl,k * 5+i,none⟩) (B5.out.block gl gll)]
    have ok:=hC k hltJ
    obtain ⟨cf,hcfe⟩:∃ c,C k=c:=⟨_,rfl⟩
    rw [hcfe] at hcell ok
    have HNew:=Lib.hid (fun w'=>new_ok cf.id 0 cf.every cf.cap cf.least w' ok.id (by omega) ok.every ok.cap ok.least)
    have hFk:=hF.1 k (Nat.le_refl _) hltJ
    rw [hcfe] at hFk
    have hidz:cf.id.size≤maxLen:=by have:=ok.id.2.1;rw [byts_len] at this;unfold maxLen;omega
    obtain ⟨lk,hlk⟩:∃ l,keyOf Tryz.prog 9 (.string cf.id)=some l:=⟨_,Go.WideMaps.keyOf_string_mk Tryz.underlying9 hidz⟩
    obtain ⟨q0,h0⟩:∃ x,cf.id=x:=⟨_,rfl⟩
    obtain ⟨q2,h2⟩:∃ x,cf.every=x:=⟨_,rfl⟩
    obtain ⟨q3,h3⟩:∃ x,cf.cap=x:=⟨_,rfl⟩
    obtain ⟨q4,h4⟩:∃ x,cf.least=x:=⟨_,rfl⟩
    have c0:wr.cell? ⟨gl,k * 5,none⟩=some (.string q0):=by rw [← h0];exact hcell 0 (by omega)
    have c1:wr.cell? ⟨gl,k * 5+1,none⟩=some (.int .i64 0):=hcell 1 (by omega)
    have c2:wr.cell? ⟨gl,k * 5+2,none⟩=some (.int .i64 q2):=by rw [← h2];exact hcell 2 (by omega)
    have c3:wr.cell? ⟨gl,k * 5+3,none⟩=some (.int .i64 q3):=by rw [← h3];exact hcell 3 (by omega)
    have c4:wr.cell? ⟨gl,k * 5+4,none⟩=some (.int .i64 q4):=by rw [← h4];exact hcell 4 (by omega)
    rw [h0,h2,h3,h4] at HNew
    rw [h0] at hlk hFk
    have kw:IntKind.i64.wrap ((k:Int)+1)=(k:Int)+1:=IntWalk.i64_in _ (by omega)
    have hkn:(k:Int)<n:=by omega
    have HQ:=Lib.hid (And.intro hcfe (And.intro h0 (And.intro h2 (And.intro h3 h4))))
    have HT:=Lib.hid ht
    have HOw:=Lib.hid hown
    have HNd:=Lib.hid hnd
    have HInj:=Lib.hid hinj
    have HM:=Lib.hid hM
    have HF:=Lib.hid hF
    have HNv:=Lib.hid hnv
    have HK:=Lib.hid hkept
    have HLk:=Lib.hid (And.intro hlk hFk)
    have qa:=alloc_cells
    have qf:=alloc_frozens
    clear hcf hcell ok hcfe h0 h2 h3 h4 ht hown hnd hinj hM hF hnv hkept hlk hFk hidz
    go_upto_region 8 with fail
    have ab:Below wr.heap.size wr (wr.alloc (.cells #[.string q0,.int .i64 0,.int .i64 q2,.int .i64 q3,.int .i64 q4] 106)):=(Below.refl _ _).alloc (Nat.le_refl _) _
    have x0:(wr.alloc (.cells #[.string q0,.int .i64 0,.int .i64 q2,.int .i64 q3,.int .i64 q4] 106)).cell? ⟨wr.heap.size,0,none⟩=some (.string q0):=by simp [qa]
    have x1:(wr.alloc (.cells #[.string q0,.int .i64 0,.int .i64 q2,.int .i64 q3,.int .i64 q4] 106)).cell? ⟨wr.heap.size,1,none⟩=some (.int .i64 0):=by simp [qa]
    have x2:(wr.alloc (.cells #[.string q0,.int .i64 0,.int .i64 q2,.int .i64 q3,.int .i64 q4] 106)).cell? ⟨wr.heap.size,2,none⟩=some (.int .i64 q2):=by simp [qa]
    have x3:(wr.alloc (.cells #[.string q0,.int .i64 0,.int .i64 q2,.int .i64 q3,.int .i64 q4] 106)).cell? ⟨wr.heap.size,3,none⟩=some (.int .i64 q3):=by simp [qa]
    have x4:(wr.alloc (.cells #[.string q0,.int .i64 0,.int .i64 q2,.int .i64 q3,.int .i64 q4] 106)).cell? ⟨wr.heap.size,4,none⟩=some (.int .i64 q4):=by simp [qa]
    have zx:wr.heap.size<(wr.alloc (.cells #[.string q0,.int .i64 0,.int .i64 q2,.int .i64 q3,.int .i64 q4] 106)).heap.size:=by simp
    have AB:=Lib.hid ab
    generalize wr.alloc (.cells #[.string q0,.int .i64 0,.int .i64 q2,.int .i64 q3,.int .i64 q4] 106)=w6 at AB x0 x1 x2 x3 x4 zx ⊢
    obtain ⟨bx,hbx⟩:∃ x,wr.heap.size=x:=⟨_,rfl⟩
    have HBx:=Lib.hid hbx
    rw [hbx] at x0 x1 x2 x3 x4 zx ⊢
    clear ab hbx c0 c1 c2 c3 c4
    go_wp2_with fail
    refine (HNew.out w6).mono ?_
    rintro e w7 ⟨b,rfl,bb,nd7,hb7⟩
    have x7:=(hb7.cell (p:=⟨bx,0,none⟩) zx).trans x0
    have z7:=hb7.size
    have ab7:=AB.out.trans (hb7.mono AB.out.size)
    have AB7:=Lib.hid ab7
    have M7:=Lib.hid (HM.out.same (ab7.block B (by omega)))
    have hrun:=M7.out.look Go.Proofs.YtnaebigoknfndaaGreatDoor.str_lawB Tryz.underlying148 HLk.out.1
    rw [HLk.out.2] at hrun
    have HNd7:=Lib.hid nd7
    have bl7:=nd7.lt
    clear x0 x1 x2 x3 x4 nd7 hb7 ab7
    go_wp2_with (at_mapUpdate;refine wpList_mapB rfl _ _ _ rfl rfl M7.out Go.Proofs.YtnaebigoknfndaaGreatDoor.str_lawB Tryz.underlying148 (by unfold maxLen;omega) (.string q0) true rfl rfl HLk.out.1 ?_)
    intro w8 F8 hs8 hf8 hM8 hg8
    have z8:=hg8.size
    have HM8:=Lib.hid hM8
    have HF8:=Lib.hid (And.intro hs8 hf8)
    have HG8:=Lib.hid hg8
    have tcell:w8.heap[t]? = some (.cells #[.slice (some ⟨ga,0,none⟩) n ca,nv,.slice (some ⟨gd,0,none⟩) n n,.slice none 0 0] 147 (0,0)):=(hg8.block t (by have:=AB7.out.size;omega) (fun e=>tB (by simpa using e))).trans ((AB7.out.block t (by omega)).trans HT.out)
    have t1:w8.cell? ⟨t,1,none⟩=some nv:=by rw [cell_of_row _ _ _ _ _ _ tcell];rfl
    have tf:∀ o,w8.frozen? ⟨t,o,none⟩=false:=(block_cells tcell).2
    have TC:=Lib.hid tcell
    have nvB:∀ q,nv.ownBlock=some q→q≠B∧q≠t:=fun q hq=>by have:=(HNv.out q hq).1;omega
    have O8:=Lib.hid (own_same (f:=fun x=>x≠B) (own_below HOw.out AB7.out) (fun q hq=>(nvB q hq).1) ⟨z8,fun x hx hne=>HG8.out.block x hx (fun e=>hne (by simpa using e))⟩)
    have zz:wr.heap.size≤w8.heap.size:=by have:=AB7.out.size;omega
    clear hs8 hf8 hM8 hg8 hrun x7 tcell
    go_wp2_with (at_builtin;refine wpList_append_own_at _ rfl _ _ 145 rfl w.heap.size 149 ip (.pointer none) 1 8 Tryz.underlying145 hip hp0 hp1 hp2 rfl (by decide) _ k _ rfl (O8.out.alloc _) ⟨w8.heap.size,0,none⟩ 1 1 [.pointer (some ⟨b,0,none⟩)] rfl rfl (cell_one_new _ _ _) (by intro u hu;simp at hu;subst hu;rfl) (by unfold maxLen;omega) (by omega) (by simp;omega) ?_)
    intro v9 w9 own9 gr9 hxx loc9
    clear hxx
    obtain ⟨A9,c9,rfl,_,_,_⟩:=own_form own9
    have z9:=gr9.size
    simp only [World.size_alloc] at z9
    have oth:∀ x,x<w8.heap.size→some x≠nv.ownBlock→w9.heap[x]? = w8.heap[x]?:=fun x hx hne=>(gr9.block x (by simp;omega) hne).trans (Below.heap_alloc w8 _ x hx)
    have tno:some t≠nv.ownBlock:=fun e=>(nvB t e.symm).2 rfl
    have e9:w9.heap[t]? = some (.cells #[.slice (some ⟨ga,0,none⟩) n ca,nv,.slice (some ⟨gd,0,none⟩) n n,.slice none 0 0] 147 (0,0)):=(oth t (by omega) tno).trans TC.out
    have y1:w9.cell? ⟨t,1,none⟩=some nv:=by rw [cell_of_row _ _ _ _ _ _ e9];rfl
    have yf:∀ o,w9.frozen? ⟨t,o,none⟩=false:=(block_cells e9).2
    have HO9:=Lib.hid own9
    have HL9:=Lib.hid loc9
    have HOth:=Lib.hid oth
    have HE9:=Lib.hid e9
    have HG9:=Lib.hid gr9
    clear own9 loc9 oth e9 gr9
    go_wp2_with fail
    have hno9:∀ q,(Value.slice A9 (k+1) c9).ownBlock=some q→w5.heap.size≤q∧(nv.ownBlock=some q∨w8.heap.size<q)∧q<w9.heap.size:=fun q hq=>by
     have lt9:=(HO9.out.lt q hq).2
     rcases HL9.out with h | h
     ·rw [hq] at h
      exact ⟨(HNv.out q h.symm).1,.inl h.symm,lt9⟩
     ·rw [hq] at h
      simp only [Option.some.injEq,World.size_alloc] at h
      exact ⟨by omega,.inr (by omega),lt9⟩
    have t9:∀ q,(Value.slice A9 (k+1) c9).ownBlock=some q→q≠t:=fun q hq=>by have:=(hno9 q hq).1;omega
    have keep:∀ x,x<w8.heap.size→some x≠nv.ownBlock→x≠t→(w9.setCell ⟨t,1,none⟩ (.slice A9 (k+1) c9)).heap[x]? = w8.heap[x]?:=fun x hx h1 h2=>(Below.heap_setCell _ _ _ _ (fun e=>h2 e)).trans (HOth.out x hx h1)
    have keepr:∀ x,x<wr.heap.size→some x≠nv.ownBlock→x≠t→x≠B→(w9.setCell ⟨t,1,none⟩ (.slice A9 (k+1) c9)).heap[x]? = wr.heap[x]?:=fun x hx h1 h2 h3=>(keep x (by omega) h1 h2).trans ((HG8.out.block x (by have:=AB7.out.size;omega) (fun e=>h3 (by simpa using e))).trans (AB7.out.block x hx))
    have bbr:wr.heap.size≤b:=by have:=HBx.out;omega
    have hnvlt:∀ q,nv.ownBlock=some q→q<wr.heap.size:=fun q hq=>(HOw.out.lt q hq).2
    have ndk:NodeAt (w9.setCell ⟨t,1,none⟩ (.slice A9 (k+1) c9)) b (C k).id 0 (C k).every (C k).cap (C k).least 0 0 0 (.slice none 0 0) (.slice none 0 0):=by
     have hq:=HQ.out
     rw [hq.1,hq.2.1,hq.2.2.1,hq.2.2.2.1,hq.2.2.2.2]
     exact HNd7.out.same ((keep b (by omega) (fun e=>by have:=hnvlt b e.symm;omega) (by omega)).trans (HG8.out.block b bl7 (fun e=>by simp only [Option.some.injEq] at e;omega)))
    go_roundw
    case rel=>
     refine ⟨k+1,m+1,.slice A9 (k+1) c9,fun j=>if j=k then b else bs j,F8,by omega,by go_num,town_set1 HE9.out _,?_,fun j hj=>?_,fun i j hi hj he=>?_,HM8.out.same (keep B (by omega) (fun e=>(nvB B e.symm).1 rfl) (fun e=>tB e.symm)),by omega,⟨fun i hi1 hi2=>?_,fun i hi=>?_⟩,fun q hq=>?_,?_⟩
     ·have h9:=HO9.out
      have e1:((List.range (k+1)).map fun j=>Value.pointer (some ⟨if j=k then b else bs j,0,none⟩))=((List.range k).map fun j=>Value.pointer (some ⟨bs j,0,none⟩)) ++ [.pointer (some ⟨b,0,none⟩)]:=by
       rw [List.range_succ,List.map_append]
       congr 1
       ·apply List.map_congr_left
        intro j hj
        have:=List.mem_range.1 hj
        rw [if_neg (by omega)]
       ·simp
      rw [e1]
      exact own_elsewhere h9 (fun e=>t9 t e rfl) _ _
     ·by_cases e:j=k
      ·subst e
       dsimp only
       rw [if_pos rfl]
       exact ⟨ndk,by omega⟩
      ·dsimp only
       rw [if_neg e]
       obtain ⟨h1,h2⟩:=HNd.out j (by omega)
       have hl:=h1.lt
       exact ⟨h1.same (keepr (bs j) hl (fun e=>(HNv.out (bs j) e.symm).2 j (by omega) rfl) (by omega) (by omega)),h2⟩
     ·dsimp only at he
      by_cases e1:i=k
      ·by_cases e2:j=k
       ·omega
       ·rw [if_pos e1,if_neg e2] at he
        have:=(HNd.out j (by omega)).1.lt
        omega
      ·by_cases e2:j=k
       ·rw [if_neg e1,if_pos e2] at he
        have:=(HNd.out i (by omega)).1.lt
        omega
       ·rw [if_neg e1,if_neg e2] at he
        exact HInj.out i j (by omega) (by omega) he
     ·rw [HF8.out.2 _ (fun e=>by
       have e':(C i).id=q0:=by simpa using e
       have h1:=HQ.out
       have:=hne i k hi2 hltJ (by rw [e',h1.1,h1.2.1])
       omega)]
      exact HF.out.1 i (by omega) hi2
     ·by_cases e':(C i).id=q0
      ·rw [e'];exact HF8.out.1
      ·rw [HF8.out.2 _ (fun e=>e' (by simpa using e))]
       refine HF.out.2 i ?_
       rcases Nat.lt_or_ge i k with hik | hik
       ·exact hik
       ·obtain rfl:i=k:=by omega
        have h1:=HQ.out
        exact absurd (by rw [h1.1,h1.2.1]) e'
     ·obtain ⟨h1,h2,h3⟩:=hno9 q hq
      refine ⟨h1,fun j hj=>?_⟩
      dsimp only
      by_cases e:j=k
      ·rw [if_pos e]
       rcases h2 with h2 | h2
       ·have:=hnvlt q h2;omega
       ·omega
      ·rw [if_neg e]
       have hl:=(HNd.out j (by omega)).1.lt
       rcases h2 with h2 | h2
       ·exact (HNv.out q h2).2 j (by omega)
       ·omega
     ·have hk:=HK.out
      refine ⟨HG9.out.os.trans (HG8.out.os.trans (AB7.out.os.trans hk.os)),HG9.out.tape.trans (HG8.out.tape.trans (AB7.out.tape.trans hk.tape)),HG9.out.output.trans (HG8.out.output.trans (AB7.out.output.trans hk.output)),by simp only [World.size_setCell];omega,fun x hx hfx=>?_⟩
      exact (keepr x (by omega) (fun e=>by have:=(HNv.out x e.symm).1;omega) (fun e=>hfx (.inl e)) (fun e=>hfx (.inr e))).trans (hk.block x hx hfx)
    case measure=>simp [intOf];omega
   ·obtain rfl:k=J:=by omega
    have hlt:k<n:=by omega
    obtain ⟨gl,rfl,gll,_,hcf⟩:=cfg_at HO.out hlt
    have hcell:∀ i,i<5→wr.cell? ⟨gl,k * 5+i,none⟩=(cfC (C k))[i]?:=fun i hi=>by
     rw [← hcf i hi,World.cell?_of_block (a:=⟨gl,k * 5+i,none⟩) (hkept.block gl (by omega) (fun h=>by omega)),World.cell?_of_block (a:=⟨gl,k * 5+i,none⟩) (B5.out.block gl gll)]
    obtain ⟨cf,hcfe⟩:∃ c,C k=c:=⟨_,rfl⟩
    rw [hcfe] at hcell
    obtain ⟨E0,hE0⟩:∃ e,cfgE cf=e:=⟨_,rfl⟩
    have hbad':=hbad
    rw [hcfe] at hbad'
    have HNew:=Lib.hid (fun w'=>new_no cf w' (by rw [← hcfe];exact hsz) hbad'.1)
    have e0E:e0=E0:=by rw [← hE0];exact hbad'.2
    rw [hE0] at HNew
    subst e0E
    have hd:(e0 != 0)=true:=by have:=hbad'.1;rw [hE0] at this;simpa using this
    clear hbad' hE0 hbad
    obtain ⟨q0,h0⟩:∃ x,cf.id=x:=⟨_,rfl⟩
    obtain ⟨q2,h2⟩:∃ x,cf.every=x:=⟨_,rfl⟩
    obtain ⟨q3,h3⟩:∃ x,cf.cap=x:=⟨_,rfl⟩
    obtain ⟨q4,h4⟩:∃ x,cf.least=x:=⟨_,rfl⟩
    have c0:wr.cell? ⟨gl,k * 5,none⟩=some (.string q0):=by rw [← h0];exact hcell 0 (by omega)
    have c1:wr.cell? ⟨gl,k * 5+1,none⟩=some (.int .i64 0):=hcell 1 (by omega)
    have c2:wr.cell? ⟨gl,k * 5+2,none⟩=some (.int .i64 q2):=by rw [← h2];exact hcell 2 (by omega)
    have c3:wr.cell? ⟨gl,k * 5+3,none⟩=some (.int .i64 q3):=by rw [← h3];exact hcell 3 (by omega)
    have c4:wr.cell? ⟨gl,k * 5+4,none⟩=some (.int .i64 q4):=by rw [← h4];exact hcell 4 (by omega)
    rw [h0,h2,h3,h4] at HNew
    have kw:IntKind.i64.wrap ((k:Int)+1)=(k:Int)+1:=IntWalk.i64_in _ (by omega)
    have hkn:(k:Int)<n:=by omega
    have HQ:=Lib.hid (And.intro hcfe (And.intro h0 (And.intro h2 (And.intro h3 h4))))
    have HT:=Lib.hid ht
    have HOw:=Lib.hid hown
    have HNd:=Lib.hid hnd
    have HInj:=Lib.hid hinj
    have HM:=Lib.hid hM
    have HF:=Lib.hid hF
    have HNv:=Lib.hid hnv
    have HK:=Lib.hid hkept
    have qa:=alloc_cells
    have qf:=alloc_frozens
    clear hcf hcell hcfe h0 h2 h3 h4 ht hown hnd hinj hM hF hnv hkept
    go_upto_region 8 with fail
    have ab:Below wr.heap.size wr (wr.alloc (.cells #[.string q0,.int .i64 0,.int .i64 q2,.int .i64 q3,.int .i64 q4] 106)):=(Below.refl _ _).alloc (Nat.le_refl _) _
    have x0:(wr.alloc (.cells #[.string q0,.int .i64 0,.int .i64 q2,.int .i64 q3,.int .i64 q4] 106)).cell? ⟨wr.heap.size,0,none⟩=some (.string q0):=by simp [qa]
    have x1:(wr.alloc (.cells #[.string q0,.int .i64 0,.int .i64 q2,.int .i64 q3,.int .i64 q4] 106)).cell? ⟨wr.heap.size,1,none⟩=some (.int .i64 0):=by simp [qa]
    have x2:(wr.alloc (.cells #[.string q0,.int .i64 0,.int .i64 q2,.int .i64 q3,.int .i64 q4] 106)).cell? ⟨wr.heap.size,2,none⟩=some (.int .i64 q2):=by simp [qa]
    have x3:(wr.alloc (.cells #[.string q0,.int .i64 0,.int .i64 q2,.int .i64 q3,.int .i64 q4] 106)).cell? ⟨wr.heap.size,3,none⟩=some (.int .i64 q3):=by simp [qa]
    have x4:(wr.alloc (.cells #[.string q0,.int .i64 0,.int .i64 q2,.int .i64 q3,.int .i64 q4] 106)).cell? ⟨wr.heap.size,4,none⟩=some (.int .i64 q4):=by simp [qa]
    have zx:wr.heap.size<(wr.alloc (.cells #[.string q0,.int .i64 0,.int .i64 q2,.int .i64 q3,.int .i64 q4] 106)).heap.size:=by simp
    have AB:=Lib.hid ab
    generalize wr.alloc (.cells #[.string q0,.int .i64 0,.int .i64 q2,.int .i64 q3,.int .i64 q4] 106)=w6 at AB x0 x1 x2 x3 x4 zx ⊢
    obtain ⟨bx,hbx⟩:∃ x,wr.heap.size=x:=⟨_,rfl⟩
    have HBx:=Lib.hid hbx
    rw [hbx] at x0 x1 x2 x3 x4 zx ⊢
    clear ab hbx c0 c1 c2 c3 c4
    go_wp2_with fail
    refine (HNew.out w6).mono ?_
    rintro e w7 ⟨rfl,hb7⟩
    have hK0:=HK.out
    have ab7:=AB.out.trans (hb7.mono AB.out.size)
    clear hb7
    go_wp2_with fail
    refine bodyPost_ret (v:=.tuple #[.pointer none,.int .i64 e0]) (by simp [results,Tryz.results76,go_sem]) rfl ?_
    refine ⟨rfl,B5.out.trans ?_⟩
    exact (hK0.below (by omega) (fun x hx=>by rcases hx with rfl | rfl <;> omega)).trans (ab7.mono (by omega))
theorem tnew_dup (n cl base J:Nat) (A:Option Addr) (C:Nat→Cfg) (e0:Int) (w:World) (own:w.ownsRow base 106 5 (.slice A n cl) n (cfgV C n)) (hn:1≤n∧n≤5) (hJ:J+1=n) (hC:∀ j,j<J→CfgOK (C j)) (hne:∀ i j,i<J→j<J→(C i).id=(C j).id→i=j) (hdup:CfgOK (C J)∧∃ i,i<J∧(C i).id=(C J).id) :
  Calls Tryz.prog 76 #[.slice A n cl] w fun e w'=>e=.returned (.tuple #[.pointer none,.int .i64 5])∧Below w.heap.size w w':=by
 have HC:=Lib.hid (fun w' (o:w'.ownsRow base 106 5 (.slice A n cl) n (cfgV C n))=>cloneC_ok A n cl base C w' o (by omega))
 have HO:=Lib.hid own
 obtain ⟨ib,hib,hb0,hb1',hb2⟩:=info_parts info_bool
 have hmm:=@run_makeMap Tryz.prog
 obtain ⟨ip,hip,hp0,hp1,hp2⟩:=info_parts info_ptr
 have n5:¬ (5:Int)<n:=by omega
 have hJn:J<n:=by omega
 clear own
 go_enter Tryz.func76,Tryz.ntmps76
 go_upto_region 3 with fail
 go_cut [4] (fun v wc=>∃ (t ga gd ca:Nat),v=.pointer (some ⟨t,0,none⟩)∧wc.heap[t]? = some (.cells #[.slice (some ⟨ga,0,none⟩) n ca,.slice none 0 0,.slice (some ⟨gd,0,none⟩) n n,.slice none 0 0] 147 (0,0)) ∧
  wc.ownsRow w.heap.size 106 5 (.slice (some ⟨ga,0,none⟩) n ca) n (cfgV C n)∧wc.ownsRow w.heap.size 4 1 (.slice (some ⟨gd,0,none⟩) n n) n (madeCells (Value.bool false).cells (n * 1)).toList∧ga≠gd∧ga≠t∧gd≠t∧w.heap.size≤t∧Below w.heap.size w wc)
 case first=>
  have kk:(fun _:World=>True) w.drew:=trivial
  refine wp_region_M (fun _=>True) (fun _=>false) 8 rfl (by kernel_rfl) ?_
  (refine wpAnyM_tk (i:=0) (v:=?_) rfl (Or.inl ⟨by rfl,?_⟩) kk ?_;(rotate_left;(intro w hSw;(try dsimp only at hSw);go_simp;try with_reducible rfl));(try simp only [Act.put,List.setIfInBounds_toArray,List.set_cons_zero,List.set_cons_succ]))
  (refine wpAnyM_tk (i:=2) (v:=?_) rfl (Or.inl ⟨by rfl,?_⟩) kk ?_;(rotate_left;(intro w hSw;(try dsimp only at hSw);go_simp;try with_reducible rfl));(try simp only [Act.put,List.setIfInBounds_toArray,List.set_cons_zero,List.set_cons_succ]))
  (refine wpAnyM_tk (i:=3) (v:=?_) rfl (Or.inl ⟨by rfl,?_⟩) kk ?_;(rotate_left;(intro w hSw;(try dsimp only at hSw);go_simp;try with_reducible rfl));(try simp only [Act.put,List.setIfInBounds_toArray,List.set_cons_zero,List.set_cons_succ]))
  refine wpAnyM_two (i:=1) (j:=4) (by kernel_rfl) rfl rfl (fun K hK=>?_) (fun K hK=>?_)
  ·go_simp
   refine (HC.out w.drew HO.out).mono ?_
   rintro e w1 ⟨A1,c1,rfl,own1,hb1⟩
   have hbw:Below w.heap.size w w1:=(Below.drew (Below.refl _ w)).trans hb1
   have z1:w.heap.size≤w1.heap.size:=hbw.size
   obtain ⟨g1,rfl⟩:∃ g,A1=some ⟨g,0,none⟩:=by obtain ⟨g,h,_⟩:=cfg_at own1 (show 0<n by omega);exact ⟨g,h⟩
   have lg1:g1<w1.heap.size∧w.heap.size≤g1:=⟨(own1.lt g1 rfl).2,(own1.lt g1 rfl).1⟩
   go_simp
   refine hK _ _ (fun _=>trivial) ?_
   clear hK K
   refine wpAnyM_one (i:=4) (by kernel_rfl) rfl (fun K hK=>?_)
   refine wp_make_full _ _ 144 rfl w.heap.size 4 ib (.bool false) 1 Tryz.underlying144 hib hb0 hb1' n (by simp [Act.eval,Act.put]) (by simp [Act.eval,Act.put]) (by rw [hb2];omega) (by unfold maxLen;omega) z1 ?_
   intro w2 own2 gr2
   have hb2':=grownN_below gr2
   have z2:=hb2'.size
   have lg2:=(own2.lt _ rfl).2
   have O1:=own_below own1 hb2'
   refine hK _ _ (fun _=>trivial) ?_
   clear hK K
   have k2:(fun _:World=>True) w2:=trivial
   (refine wpAnyM_tk (i:=5) (v:=?_) rfl (Or.inl ⟨by rfl,?_⟩) k2 ?_;(rotate_left;(intro w hSw;(try dsimp only at hSw);go_simp;try with_reducible rfl));(try simp only [Act.put,List.setIfInBounds_toArray,List.set_cons_zero,List.set_cons_succ]))
   refine wpAnyM_one (i:=6) (by kernel_rfl) rfl (fun K hK=>?_)
   go_simp
   refine hK _ _ (fun _=>trivial) ?_
   clear hK K
   have k3:(fun _:World=>True) (w2.alloc (.cells #[.slice (some ⟨g1,0,none⟩) n c1,.slice none 0 0,.slice (some ⟨w1.heap.size,0,none⟩) n n,.slice none 0 0] 147)):=trivial
   (refine wpAnyM_tk (i:=7) (v:=?_) rfl (Or.inl ⟨by rfl,?_⟩) k3 ?_;(rotate_left;(intro w hSw;(try dsimp only at hSw);go_simp;try with_reducible rfl));(try simp only [Act.put,List.setIfInBounds_toArray,List.set_cons_zero,List.set_cons_succ]))
   refine wpAnyM_done (by kernel_rfl) ?_ _
   go_simp
   go_wp2_with fail
   go_meet
   case rel=>exact ⟨w2.heap.size,g1,w1.heap.size,c1,rfl,heap_alloc_new' _ _,O1.alloc _,own2.alloc _,by omega,by omega,by omega,by omega,(hbw.trans (hb2'.mono z1)).alloc (by omega) _⟩
  ·refine wp_make_full _ _ 144 rfl w.heap.size 4 ib (.bool false) 1 Tryz.underlying144 hib hb0 hb1' n (by simp [Act.eval,Act.put]) (by simp [Act.eval,Act.put]) (by rw [hb2];omega) (by unfold maxLen;omega) (Nat.le_refl _) ?_
   intro w1 own1 gr1
   have hb1':=grownN_below gr1
   have hbw:Below w.heap.size w w1:=(Below.drew (Below.refl _ w)).trans hb1'
   have z1:w.heap.size≤w1.heap.size:=hbw.size
   have lg1:w.heap.size<w1.heap.size:=(own1.lt _ rfl).2
   refine hK _ _ (fun _=>trivial) ?_
   clear hK K
   refine wpAnyM_one (i:=1) (by kernel_rfl) rfl (fun K hK=>?_)
   go_simp
   refine (HC.out w1 (own_below HO.out hbw)).mono ?_
   rintro e w2 ⟨A2,c2,rfl,own2,hb2⟩
   have z2:=hb2.size
   obtain ⟨g2,rfl⟩:∃ g,A2=some ⟨g,0,none⟩:=by obtain ⟨g,h,_⟩:=cfg_at own2 (show 0<n by omega);exact ⟨g,h⟩
   have lg2:g2<w2.heap.size∧w1.heap.size≤g2:=⟨(own2.lt g2 rfl).2,(own2.lt g2 rfl).1⟩
   have O1:=own_below own1 hb2
   have O2:=own_mono own2 z1
   go_simp
   refine hK _ _ (fun _=>trivial) ?_
   clear hK K
   have k2:(fun _:World=>True) w2:=trivial
   (refine wpAnyM_tk (i:=5) (v:=?_) rfl (Or.inl ⟨by rfl,?_⟩) k2 ?_;(rotate_left;(intro w hSw;(try dsimp only at hSw);go_simp;try with_reducible rfl));(try simp only [Act.put,List.setIfInBounds_toArray,List.set_cons_zero,List.set_cons_succ]))
   refine wpAnyM_one (i:=6) (by kernel_rfl) rfl (fun K hK=>?_)
   go_simp
   refine hK _ _ (fun _=>trivial) ?_
   clear hK K
   have k3:(fun _:World=>True) (w2.alloc (.cells #[.slice (some ⟨g2,0,none⟩) n c2,.slice none 0 0,.slice (some ⟨w.heap.size,0,none⟩) n n,.slice none 0 0] 147)):=trivial
   (refine wpAnyM_tk (i:=7) (v:=?_) rfl (Or.inl ⟨by rfl,?_⟩) k3 ?_;(rotate_left;(intro w hSw;(try dsimp only at hSw);go_simp;try with_reducible rfl));(try simp only [Act.put,List.setIfInBounds_toArray,List.set_cons_zero,List.set_cons_succ]))
   refine wpAnyM_done (by kernel_rfl) ?_ _
   go_simp
   go_wp2_with fail
   go_meet
   case rel=>exact ⟨w2.heap.size,g2,w.heap.size,c2,rfl,heap_alloc_new' _ _,O2.alloc _,O1.alloc _,by omega,by omega,by omega,by omega,(hbw.trans (hb2.mono z1)).alloc (by omega) _⟩
 case rest=>
  obtain ⟨t,ga,gd,ca,rfl,ht,ho1,ho2,ne1,ne2,ne3,htw,bel⟩:=hcut
  have tl:t<wc.heap.size:=(Array.getElem?_eq_some_iff.1 ht).1
  have gal:=ho1.lt ga rfl
  have gdl:=ho2.lt gd rfl
  have ab:Below wc.heap.size wc (wc.alloc (.map #[] 0)):=(Below.refl _ _).alloc (Nat.le_refl _) _
  have M0:=Lib.hid (MapB.made 9 wc)
  have T5:=Lib.hid ((ab.block t tl).trans ht)
  have OA:=Lib.hid (own_below ho1 ab)
  have OD:=Lib.hid (own_below ho2 ab)
  have B5:=Lib.hid (bel.trans (ab.mono bel.size))
  obtain ⟨B,hB⟩:∃ B,wc.heap.size=B:=⟨_,rfl⟩
  have hBw:w.heap.size≤B:=by rw [← hB];exact bel.size
  have z5:(wc.alloc (.map #[] 0)).heap.size=B+1:=by simp [hB]
  rw [hB] at M0 tl gal gdl
  clear ht ho1 ho2 bel ab
  go_wp2_with fail
  clear hB
  generalize wc.alloc (.map #[] 0)=w5 at M0 T5 OA OD B5 z5 ⊢
  have z5':w.heap.size≤w5.heap.size∧t<w5.heap.size∧B<w5.heap.size:=by omega
  have tB:t≠B:=by omega
  clear z5
  go_loopw [27] (fun i wr=>∃ (k m:Nat) (nv:Value) (bs:Nat→Nat) (F:Value→Bool),k≤J∧i=.int .i64 k∧wr.heap[t]? = some (.cells #[.slice (some ⟨ga,0,none⟩) n ca,nv,.slice (some ⟨gd,0,none⟩) n n,.slice none 0 0] 147 (0,0)) ∧
   wr.ownsRow w.heap.size 149 1 nv k ((List.range k).map fun j=>.pointer (some ⟨bs j,0,none⟩))∧(∀ j,j<k→NodeAt wr (bs j) (C j).id 0 (C j).every (C j).cap (C j).least 0 0 0 (.slice none 0 0) (.slice none 0 0)∧w5.heap.size≤bs j)∧(∀ i j,i<k→j<k→bs i=bs j→i=j) ∧
   MapB 9 wr B m F∧m≤k∧((∀ i,k≤i→i<J→F (.string (C i).id)=false)∧∀ i,i<k→F (.string (C i).id)=true)∧(∀ q,nv.ownBlock=some q→w5.heap.size≤q∧∀ j,j<k→bs j≠q)∧Kept (fun x=>x=t∨x=B) w5 wr) (fun i _=>n - (intOf i).toNat)
  case atStart=>exact ⟨0,0,.slice none 0 0,fun _=>0,_,Nat.zero_le _,rfl,T5.out,World.ownsRow_nil _ _ _ _,fun j hj=>absurd hj (by omega),fun i j hi=>absurd hi (by omega),M0.out,Nat.le_refl _,⟨fun _ _ _=>rfl,fun i hi=>absurd hi (by omega)⟩,fun q hq=>by simp [Value.ownBlock] at hq,Kept.refl _ _⟩
  case round=>
   obtain ⟨k,m,nv,bs,F,hk,rfl,ht,hown,hnd,hinj,hM,hm,hF,hnv,hkept⟩:=hrel
   have sz0:=hkept.size
   by_cases hltJ:k<J
   ·have hlt:k<n:=by omega
    obtain ⟨gl,rfl,gll,_,hcf⟩:=cfg_at HO.out hlt
    have hcell:∀ i,i<5→wr.cell? ⟨gl,k * 5+i,none⟩=(cfC (C k))[i]?:=fun i hi=>by
     rw [← hcf i hi,World.cell?_of_block (a:=⟨gl,k * 5+i,none⟩) (hkept.block gl (by omega) (fun h=>by omega)),World.cell?_of_block (a:=⟨gl,k * 5+i,none⟩) (B5.out.block gl gll)]
    have ok:=hC k hltJ
    obtain ⟨cf,hcfe⟩:∃ c,C k=c:=⟨_,rfl⟩
    rw [hcfe] at hcell ok
    have HNew:=Lib.hid (fun w'=>new_ok cf.id 0 cf.every cf.cap cf.least w' ok.id (by omega) ok.every ok.cap ok.least)
    have hFk:=hF.1 k (Nat.le_refl _) hltJ
    rw [hcfe] at hFk
    have hidz:cf.id.size≤maxLen:=by have:=ok.id.2.1;rw [byts_len] at this;unfold maxLen;omega
    obtain ⟨lk,hlk⟩:∃ l,keyOf Tryz.prog 9 (.string cf.id)=some l:=⟨_,Go.WideMaps.keyOf_string_mk Tryz.underlying9 hidz⟩
    obtain ⟨q0,h0⟩:∃ x,cf.id=x:=⟨_,rfl⟩
    obtain ⟨q2,h2⟩:∃ x,cf.every=x:=⟨_,rfl⟩
    obtain ⟨q3,h3⟩:∃ x,cf.cap=x:=⟨_,rfl⟩
    obtain ⟨q4,h4⟩:∃ x,cf.least=x:=⟨_,rfl⟩
    have c0:wr.cell? ⟨gl,k * 5,none⟩=some (.string q0):=by rw [← h0];exact hcell 0 (by omega)
    have c1:wr.cell? ⟨gl,k * 5+1,none⟩=some (.int .i64 0):=hcell 1 (by omega)
    have c2:wr.cell? ⟨gl,k * 5+2,none⟩=some (.int .i64 q2):=by rw [← h2];exact hcell 2 (by omega)
    have c3:wr.cell? ⟨gl,k * 5+3,none⟩=some (.int .i64 q3):=by rw [← h3];exact hcell 3 (by omega)
    have c4:wr.cell? ⟨gl,k * 5+4,none⟩=some (.int .i64 q4):=by rw [← h4];exact hcell 4 (by omega)
    rw [h0,h2,h3,h4] at HNew
    rw [h0] at hlk hFk
    have kw:IntKind.i64.wrap ((k:Int)+1)=(k:Int)+1:=IntWalk.i64_in _ (by omega)
    have hkn:(k:Int)<n:=by omega
    have HQ:=Lib.hid (And.intro hcfe (And.intro h0 (And.intro h2 (And.intro h3 h4))))
    have HT:=Lib.hid ht
    have HOw:=Lib.hid hown
    have HNd:=Lib.hid hnd
    have HInj:=Lib.hid hinj
    have HM:=Lib.hid hM
    have HF:=Lib.hid hF
    have HNv:=Lib.hid hnv
    have HK:=Lib.hid hkept
    have HLk:=Lib.hid (And.intro hlk hFk)
    have qa:=alloc_cells
    have qf:=alloc_frozens
    clear hcf hcell ok hcfe h0 h2 h3 h4 ht hown hnd hinj hM hF hnv hkept hlk hFk hidz
    go_upto_region 8 with fail
    have ab:Below wr.heap.size wr (wr.alloc (.cells #[.string q0,.int .i64 0,.int .i64 q2,.int .i64 q3,.int .i64 q4] 106)):=(Below.refl _ _).alloc (Nat.le_refl _) _
    have x0:(wr.alloc (.cells #[.string q0,.int .i64 0,.int .i64 q2,.int .i64 q3,.int .i64 q4] 106)).cell? ⟨wr.heap.size,0,none⟩=some (.string q0):=by simp [qa]
    have x1:(wr.alloc (.cells #[.string q0,.int .i64 0,.int .i64 q2,.int .i64 q3,.int .i64 q4] 106)).cell? ⟨wr.heap.size,1,none⟩=some (.int .i64 0):=by simp [qa]
    have x2:(wr.alloc (.cells #[.string q0,.int .i64 0,.int .i64 q2,.int .i64 q3,.int .i64 q4] 106)).cell? ⟨wr.heap.size,2,none⟩=some (.int .i64 q2):=by simp [qa]
    have x3:(wr.alloc (.cells #[.string q0,.int .i64 0,.int .i64 q2,.int .i64 q3,.int .i64 q4] 106)).cell? ⟨wr.heap.size,3,none⟩=some (.int .i64 q3):=by simp [qa]
    have x4:(wr.alloc (.cells #[.string q0,.int .i64 0,.int .i64 q2,.int .i64 q3,.int .i64 q4] 106)).cell? ⟨wr.heap.size,4,none⟩=some (.int .i64 q4):=by simp [qa]
    have zx:wr.heap.size<(wr.alloc (.cells #[.string q0,.int .i64 0,.int .i64 q2,.int .i64 q3,.int .i64 q4] 106)).heap.size:=by simp
    have AB:=Lib.hid ab
    generalize wr.alloc (.cells #[.string q0,.int .i64 0,.int .i64 q2,.int .i64 q3,.int .i64 q4] 106)=w6 at AB x0 x1 x2 x3 x4 zx ⊢
    obtain ⟨bx,hbx⟩:∃ x,wr.heap.size=x:=⟨_,rfl⟩
    have HBx:=Lib.hid hbx
    rw [hbx] at x0 x1 x2 x3 x4 zx ⊢
    clear ab hbx c0 c1 c2 c3 c4
    go_wp2_with fail
    refine (HNew.out w6).mono ?_
    rintro e w7 ⟨b,rfl,bb,nd7,hb7⟩
    have x7:=(hb7.cell (p:=⟨bx,0,none⟩) zx).trans x0
    have z7:=hb7.size
    have ab7:=AB.out.trans (hb7.mono AB.out.size)
    have AB7:=Lib.hid ab7
    have M7:=Lib.hid (HM.out.same (ab7.block B (by omega)))
    have hrun:=M7.out.look Go.Proofs.YtnaebigoknfndaaGreatDoor.str_lawB Tryz.underlying148 HLk.out.1
    rw [HLk.out.2] at hrun
    have HNd7:=Lib.hid nd7
    have bl7:=nd7.lt
    clear x0 x1 x2 x3 x4 nd7 hb7 ab7
    go_wp2_with (at_mapUpdate;refine wpList_mapB rfl _ _ _ rfl rfl M7.out Go.Proofs.YtnaebigoknfndaaGreatDoor.str_lawB Tryz.underlying148 (by unfold maxLen;omega) (.string q0) true rfl rfl HLk.out.1 ?_)
    intro w8 F8 hs8 hf8 hM8 hg8
    have z8:=hg8.size
    have HM8:=Lib.hid hM8
    have HF8:=Lib.hid (And.intro hs8 hf8)
    have HG8:=Lib.hid hg8
    have tcell:w8.heap[t]? = some (.cells #[.slice (some ⟨ga,0,none⟩) n ca,nv,.slice (some ⟨gd,0,none⟩) n n,.slice none 0 0] 147 (0,0)):=(hg8.block t (by have:=AB7.out.size;omega) (fun e=>tB (by simpa using e))).trans ((AB7.out.block t (by omega)).trans HT.out)
    have t1:w8.cell? ⟨t,1,none⟩=some nv:=by rw [cell_of_row _ _ _ _ _ _ tcell];rfl
    have tf:∀ o,w8.frozen? ⟨t,o,none⟩=false:=(block_cells tcell).2
    have TC:=Lib.hid tcell
    have nvB:∀ q,nv.ownBlock=some q→q≠B∧q≠t:=fun q hq=>by have:=(HNv.out q hq).1;omega
    have O8:=Lib.hid (own_same (f:=fun x=>x≠B) (own_below HOw.out AB7.out) (fun q hq=>(nvB q hq).1) ⟨z8,fun x hx hne=>HG8.out.block x hx (fun e=>hne (by simpa using e))⟩)
    have zz:wr.heap.size≤w8.heap.size:=by have:=AB7.out.size;omega
    clear hs8 hf8 hM8 hg8 hrun x7 tcell
    go_wp2_with (at_builtin;refine wpList_append_own_at _ rfl _ _ 145 rfl w.heap.size 149 ip (.pointer none) 1 8 Tryz.underlying145 hip hp0 hp1 hp2 rfl (by decide) _ k _ rfl (O8.out.alloc _) ⟨w8.heap.size,0,none⟩ 1 1 [.pointer (some ⟨b,0,none⟩)] rfl rfl (cell_one_new _ _ _) (by intro u hu;simp at hu;subst hu;rfl) (by unfold maxLen;omega) (by omega) (by simp;omega) ?_)
    intro v9 w9 own9 gr9 hxx loc9
    clear hxx
    obtain ⟨A9,c9,rfl,_,_,_⟩:=own_form own9
    have z9:=gr9.size
    simp only [World.size_alloc] at z9
    have oth:∀ x,x<w8.heap.size→some x≠nv.ownBlock→w9.heap[x]? = w8.heap[x]?:=fun x hx hne=>(gr9.block x (by simp;omega) hne).trans (Below.heap_alloc w8 _ x hx)
    have tno:some t≠nv.ownBlock:=fun e=>(nvB t e.symm).2 rfl
    have e9:w9.heap[t]? = some (.cells #[.slice (some ⟨ga,0,none⟩) n ca,nv,.slice (some ⟨gd,0,none⟩) n n,.slice none 0 0] 147 (0,0)):=(oth t (by omega) tno).trans TC.out
    have y1:w9.cell? ⟨t,1,none⟩=some nv:=by rw [cell_of_row _ _ _ _ _ _ e9];rfl
    have yf:∀ o,w9.frozen? ⟨t,o,none⟩=false:=(block_cells e9).2
    have HO9:=Lib.hid own9
    have HL9:=Lib.hid loc9
    have HOth:=Lib.hid oth
    have HE9:=Lib.hid e9
    have HG9:=Lib.hid gr9
    clear own9 loc9 oth e9 gr9
    go_wp2_with fail
    have hno9:∀ q,(Value.slice A9 (k+1) c9).ownBlock=some q→w5.heap.size≤q∧(nv.ownBlock=some q∨w8.heap.size<q)∧q<w9.heap.size:=fun q hq=>by
     have lt9:=(HO9.out.lt q hq).2
     rcases HL9.out with h | h
     ·rw [hq] at h
      exact ⟨(HNv.out q h.symm).1,.inl h.symm,lt9⟩
     ·rw [hq] at h
      simp only [Option.some.injEq,World.size_alloc] at h
      exact ⟨by omega,.inr (by omega),lt9⟩
    have t9:∀ q,(Value.slice A9 (k+1) c9).ownBlock=some q→q≠t:=fun q hq=>by have:=(hno9 q hq).1;omega
    have keep:∀ x,x<w8.heap.size→some x≠nv.ownBlock→x≠t→(w9.setCell ⟨t,1,none⟩ (.slice A9 (k+1) c9)).heap[x]? = w8.heap[x]?:=fun x hx h1 h2=>(Below.heap_setCell _ _ _ _ (fun e=>h2 e)).trans (HOth.out x hx h1)
    have keepr:∀ x,x<wr.heap.size→some x≠nv.ownBlock→x≠t→x≠B→(w9.setCell ⟨t,1,none⟩ (.slice A9 (k+1) c9)).heap[x]? = wr.heap[x]?:=fun x hx h1 h2 h3=>(keep x (by omega) h1 h2).trans ((HG8.out.block x (by have:=AB7.out.size;omega) (fun e=>h3 (by simpa using e))).trans (AB7.out.block x hx))
    have bbr:wr.heap.size≤b:=by have:=HBx.out;omega
    have hnvlt:∀ q,nv.ownBlock=some q→q<wr.heap.size:=fun q hq=>(HOw.out.lt q hq).2
    have ndk:NodeAt (w9.setCell ⟨t,1,none⟩ (.slice A9 (k+1) c9)) b (C k).id 0 (C k).every (C k).cap (C k).least 0 0 0 (.slice none 0 0) (.slice none 0 0):=by
     have hq:=HQ.out
     rw [hq.1,hq.2.1,hq.2.2.1,hq.2.2.2.1,hq.2.2.2.2]
     exact HNd7.out.same ((keep b (by omega) (fun e=>by have:=hnvlt b e.symm;omega) (by omega)).trans (HG8.out.block b bl7 (fun e=>by simp only [Option.some.injEq] at e;omega)))
    go_roundw
    case rel=>
     refine ⟨k+1,m+1,.slice A9 (k+1) c9,fun j=>if j=k then b else bs j,F8,by omega,by go_num,town_set1 HE9.out _,?_,fun j hj=>?_,fun i j hi hj he=>?_,HM8.out.same (keep B (by omega) (fun e=>(nvB B e.symm).1 rfl) (fun e=>tB e.symm)),by omega,⟨fun i hi1 hi2=>?_,fun i hi=>?_⟩,fun q hq=>?_,?_⟩
     ·have h9:=HO9.out
      have e1:((List.range (k+1)).map fun j=>Value.pointer (some ⟨if j=k then b else bs j,0,none⟩))=((List.range k).map fun j=>Value.pointer (some ⟨bs j,0,none⟩)) ++ [.pointer (some ⟨b,0,none⟩)]:=by
       rw [List.range_succ,List.map_append]
       congr 1
       ·apply List.map_congr_left
        intro j hj
        have:=List.mem_range.1 hj
        rw [if_neg (by omega)]
       ·simp
      rw [e1]
      exact own_elsewhere h9 (fun e=>t9 t e rfl) _ _
     ·by_cases e:j=k
      ·subst e
       dsimp only
       rw [if_pos rfl]
       exact ⟨ndk,by omega⟩
      ·dsimp only
       rw [if_neg e]
       obtain ⟨h1,h2⟩:=HNd.out j (by omega)
       have hl:=h1.lt
       exact ⟨h1.same (keepr (bs j) hl (fun e=>(HNv.out (bs j) e.symm).2 j (by omega) rfl) (by omega) (by omega)),h2⟩
     ·dsimp only at he
      by_cases e1:i=k
      ·by_cases e2:j=k
       ·omega
       ·rw [if_pos e1,if_neg e2] at he
        have:=(HNd.out j (by omega)).1.lt
        omega
      ·by_cases e2:j=k
       ·rw [if_neg e1,if_pos e2] at he
        have:=(HNd.out i (by omega)).1.lt
        omega
       ·rw [if_neg e1,if_neg e2] at he
        exact HInj.out i j (by omega) (by omega) he
     ·rw [HF8.out.2 _ (fun e=>by
       have e':(C i).id=q0:=by simpa using e
       have h1:=HQ.out
       have:=hne i k hi2 hltJ (by rw [e',h1.1,h1.2.1])
       omega)]
      exact HF.out.1 i (by omega) hi2
     ·by_cases e':(C i).id=q0
      ·rw [e'];exact HF8.out.1
      ·rw [HF8.out.2 _ (fun e=>e' (by simpa using e))]
       refine HF.out.2 i ?_
       rcases Nat.lt_or_ge i k with hik | hik
       ·exact hik
       ·obtain rfl:i=k:=by omega
        have h1:=HQ.out
        exact absurd (by rw [h1.1,h1.2.1]) e'
     ·obtain ⟨h1,h2,h3⟩:=hno9 q hq
      refine ⟨h1,fun j hj=>?_⟩
      dsimp only
      by_cases e:j=k
      ·rw [if_pos e]
       rcases h2 with h2 | h2
       ·have:=hnvlt q h2;omega
       ·omega
      ·rw [if_neg e]
       have hl:=(HNd.out j (by omega)).1.lt
       rcases h2 with h2 | h2
       ·exact (HNv.out q h2).2 j (by omega)
       ·omega
     ·have hk:=HK.out
      refine ⟨HG9.out.os.trans (HG8.out.os.trans (AB7.out.os.trans hk.os)),HG9.out.tape.trans (HG8.out.tape.trans (AB7.out.tape.trans hk.tape)),HG9.out.output.trans (HG8.out.output.trans (AB7.out.output.trans hk.output)),by simp only [World.size_setCell];omega,fun x hx hfx=>?_⟩
      exact (keepr x (by omega) (fun e=>by have:=(HNv.out x e.symm).1;omega) (fun e=>hfx (.inl e)) (fun e=>hfx (.inr e))).trans (hk.block x hx hfx)
    case measure=>simp [intOf];omega
   ·obtain rfl:k=J:=by omega
    have hlt:k<n:=by omega
    obtain ⟨gl,rfl,gll,_,hcf⟩:=cfg_at HO.out hlt
    have hcell:∀ i,i<5→wr.cell? ⟨gl,k * 5+i,none⟩=(cfC (C k))[i]?:=fun i hi=>by
     rw [← hcf i hi,World.cell?_of_block (a:=⟨gl,k * 5+i,none⟩) (hkept.block gl (by omega) (fun h=>by omega)),World.cell?_of_block (a:=⟨gl,k * 5+i,none⟩) (B5.out.block gl gll)]
    obtain ⟨cf,hcfe⟩:∃ c,C k=c:=⟨_,rfl⟩
    rw [hcfe] at hcell
    have ok:CfgOK cf:=by rw [← hcfe];exact hdup.1
    have HNew:=Lib.hid (fun w'=>new_ok cf.id 0 cf.every cf.cap cf.least w' ok.id (by omega) ok.every ok.cap ok.least)
    have hFk:F (.string (C k).id)=true:=by
     obtain ⟨i,hi,he⟩:=hdup.2
     rw [← he];exact hF.2 i hi
    rw [hcfe] at hFk
    have hidz:cf.id.size≤maxLen:=by have:=ok.id.2.1;rw [byts_len] at this;unfold maxLen;omega
    obtain ⟨lk,hlk⟩:∃ l,keyOf Tryz.prog 9 (.string cf.id)=some l:=⟨_,Go.WideMaps.keyOf_string_mk Tryz.underlying9 hidz⟩
    obtain ⟨q0,h0⟩:∃ x,cf.id=x:=⟨_,rfl⟩
    obtain ⟨q2,h2⟩:∃ x,cf.every=x:=⟨_,rfl⟩
    obtain ⟨q3,h3⟩:∃ x,cf.cap=x:=⟨_,rfl⟩
    obtain ⟨q4,h4⟩:∃ x,cf.least=x:=⟨_,rfl⟩
    have c0:wr.cell? ⟨gl,k * 5,none⟩=some (.string q0):=by rw [← h0];exact hcell 0 (by omega)
    have c1:wr.cell? ⟨gl,k * 5+1,none⟩=some (.int .i64 0):=hcell 1 (by omega)
    have c2:wr.cell? ⟨gl,k * 5+2,none⟩=some (.int .i64 q2):=by rw [← h2];exact hcell 2 (by omega)
    have c3:wr.cell? ⟨gl,k * 5+3,none⟩=some (.int .i64 q3):=by rw [← h3];exact hcell 3 (by omega)
    have c4:wr.cell? ⟨gl,k * 5+4,none⟩=some (.int .i64 q4):=by rw [← h4];exact hcell 4 (by omega)
    rw [h0,h2,h3,h4] at HNew
    rw [h0] at hlk hFk
    have kw:IntKind.i64.wrap ((k:Int)+1)=(k:Int)+1:=IntWalk.i64_in _ (by omega)
    have hkn:(k:Int)<n:=by omega
    have HQ:=Lib.hid (And.intro hcfe (And.intro h0 (And.intro h2 (And.intro h3 h4))))
    have HT:=Lib.hid ht
    have HOw:=Lib.hid hown
    have HNd:=Lib.hid hnd
    have HInj:=Lib.hid hinj
    have HM:=Lib.hid hM
    have HF:=Lib.hid hF
    have HNv:=Lib.hid hnv
    have HK:=Lib.hid hkept
    have HLk:=Lib.hid (And.intro hlk hFk)
    have qa:=alloc_cells
    have qf:=alloc_frozens
    clear hcf hcell ok hcfe h0 h2 h3 h4 ht hown hnd hinj hM hF hnv hkept hlk hFk hidz
    go_upto_region 8 with fail
    have ab:Below wr.heap.size wr (wr.alloc (.cells #[.string q0,.int .i64 0,.int .i64 q2,.int .i64 q3,.int .i64 q4] 106)):=(Below.refl _ _).alloc (Nat.le_refl _) _
    have x0:(wr.alloc (.cells #[.string q0,.int .i64 0,.int .i64 q2,.int .i64 q3,.int .i64 q4] 106)).cell? ⟨wr.heap.size,0,none⟩=some (.string q0):=by simp [qa]
    have x1:(wr.alloc (.cells #[.string q0,.int .i64 0,.int .i64 q2,.int .i64 q3,.int .i64 q4] 106)).cell? ⟨wr.heap.size,1,none⟩=some (.int .i64 0):=by simp [qa]
    have x2:(wr.alloc (.cells #[.string q0,.int .i64 0,.int .i64 q2,.int .i64 q3,.int .i64 q4] 106)).cell? ⟨wr.heap.size,2,none⟩=some (.int .i64 q2):=by simp [qa]
    have x3:(wr.alloc (.cells #[.string q0,.int .i64 0,.int .i64 q2,.int .i64 q3,.int .i64 q4] 106)).cell? ⟨wr.heap.size,3,none⟩=some (.int .i64 q3):=by simp [qa]
    have x4:(wr.alloc (.cells #[.string q0,.int .i64 0,.int .i64 q2,.int .i64 q3,.int .i64 q4] 106)).cell? ⟨wr.heap.size,4,none⟩=some (.int .i64 q4):=by simp [qa]
    have zx:wr.heap.size<(wr.alloc (.cells #[.string q0,.int .i64 0,.int .i64 q2,.int .i64 q3,.int .i64 q4] 106)).heap.size:=by simp
    have AB:=Lib.hid ab
    generalize wr.alloc (.cells #[.string q0,.int .i64 0,.int .i64 q2,.int .i64 q3,.int .i64 q4] 106)=w6 at AB x0 x1 x2 x3 x4 zx ⊢
    obtain ⟨bx,hbx⟩:∃ x,wr.heap.size=x:=⟨_,rfl⟩
    have HBx:=Lib.hid hbx
    rw [hbx] at x0 x1 x2 x3 x4 zx ⊢
    clear ab hbx c0 c1 c2 c3 c4
    go_wp2_with fail
    refine (HNew.out w6).mono ?_
    rintro e w7 ⟨b,rfl,bb,nd7,hb7⟩
    have x7:=(hb7.cell (p:=⟨bx,0,none⟩) zx).trans x0
    have hK0:=HK.out
    have ab7:=AB.out.trans (hb7.mono AB.out.size)
    have M7:=Lib.hid (HM.out.same (ab7.block B (by omega)))
    have hrun:=M7.out.look Go.Proofs.YtnaebigoknfndaaGreatDoor.str_lawB Tryz.underlying148 HLk.out.1
    rw [HLk.out.2] at hrun
    clear x0 x1 x2 x3 x4 nd7 hb7
    go_wp2_with fail
    refine bodyPost_ret (v:=.tuple #[.pointer none,.int .i64 5]) (by simp [results,Tryz.results76,go_sem]) rfl ?_
    refine ⟨rfl,B5.out.trans ?_⟩
    exact (hK0.below (by omega) (fun x hx=>by rcases hx with rfl | rfl <;> omega)).trans (ab7.mono (by omega))
end Go.Proofs.YtnaebigoknfndaaGreatDoor

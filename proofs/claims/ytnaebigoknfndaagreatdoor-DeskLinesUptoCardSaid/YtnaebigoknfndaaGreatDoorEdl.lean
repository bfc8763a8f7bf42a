/- DeskLines, as the card states it up to a machine's sizes: every line that is not skipped has exactly one reply, which begins with ok or error; no condition but the card's own. -/
import Derived.Test.YtnaebigoknfndaaGreatDoorE01
import Derived.Test.YtnaebigoknfndaaGreatDoorE27
import Derived.Test.YtnaebigoknfndaaGreatDoorCards
import Derived.Test.YtnaebigoknfndaaGreatDoorTie
import Derived.WalkKit
import Derived.ProofKit
import Derived.OpenShut
import Derived.ShutString
import Derived.ChangeOld
import Derived.Below
import Derived.Lib.SmallJoins
import Derived.Deep.DeepHandedRow
import Derived.Lay
set_option linter.unusedVariables false
set_option linter.unusedSimpArgs false
set_option maxRecDepth 100000
set_option maxHeartbeats 20000000
namespace Go.Proofs.YtnaebigoknfndaaGreatDoor
open Go Go.RowKit
theorem dl_walk (l:Bs) (hz:l.length≤1048576) (w:World) (g:GOK w) :
  Calls Tryz.prog 3 #[.string (ar l)] w fun e w'=>e=.returned (.bool true)∧Below w.heap.size w w':=by
 obtain ⟨T,St,ch⟩:=chain_ex (linesL l) (fun x hx=>Nat.le_trans (linesL_mem hx) hz) (linesL l).length
 have h10:=g.low
 have HM:=Lib.hid (run_mean w g)
 have HR:=Lib.hid (fun w' (h:Below w.heap.size w w')=>run_any l hz T St ch w' (g.below h h10))
 have HG:=Lib.hid (fun w' (h:Below w.heap.size w w')=>g.below h h10)
 have HC:=Lib.hid ch
 have HZ:=Lib.hid hz
 obtain ⟨s,hs⟩:∃ s,ar l=s:=⟨_,rfl⟩
 have Hs:=Lib.hid hs
 rw [hs] at HR ⊢
 obtain ⟨tm,htm⟩:∃ t,ByteArray.mk #[111,107,32,51,10]=t:=⟨_,rfl⟩
 rw [htm] at HM
 have eqm:(tm.toList == [111,107,32,51,10])=true:=by rw [← htm];exact lit_yes _
 obtain ⟨gt,hgt⟩:∃ t,runR l T=t:=⟨_,rfl⟩
 rw [hgt] at HR
 have Hgt:=Lib.hid hgt
 clear g ch hs htm hgt hz
 go_enter Tryz.func3,Tryz.ntmps3
 go_wp2_with fail
 refine HM.out.mono ?_
 rintro e w1 ⟨rfl,hb1⟩
 have HB1:=Lib.hid hb1
 have HR1:=Lib.hid (HR.out w1 hb1)
 clear hb1
 go_wp2_with fail
 refine HR1.out.mono ?_
 rintro e w2 ⟨rfl,hb2⟩
 have HB2:=Lib.hid (HB1.out.trans (hb2.mono HB1.out.size))
 clear hb2
 by_cases hbig:gt=bigB
 ·have eqb:(gt.toList == [101,114,114,111,114,32,50,10])=true:=by rw [hbig];exact lit_yes _
  clear hbig
  go_wp2_with fail
  go_ret
  exact ⟨rfl,HB2.out⟩
 ·have eqb:(gt.toList == [101,114,114,111,114,32,50,10])=false:=lit_no hbig
  obtain ⟨n,hn⟩:∃ n,(linesL l).length=n:=⟨_,rfl⟩
  have hsm:l.length≤65536∧n≤200:=by
   by_cases h:l.length≤65536∧n≤200
   ·exact h
   ·refine absurd ?_ hbig
    rw [← Hgt.out]
    unfold runR
    rw [hn,if_neg h]
  obtain ⟨hl6,hn2⟩:=hsm
  obtain ⟨Q,hQ⟩:∃ Q,T n=Q:=⟨_,rfl⟩
  have hg:ar (runT Q)=gt:=by
   rw [← Hgt.out]
   unfold runR
   rw [hn,hQ,if_pos ⟨hl6,hn2⟩]
  have hch:=HC.out
  rw [hn] at hch
  have hQl:Q.length=(keptL (linesL l)).length:=by
   rw [← hQ,hch.len (by omega) n (Nat.le_refl _),← hn,List.take_length]
  have hQe:∀ t,t∈Q→Line t∧t.size≤1000000:=fun t ht=>hch.each n (Nat.le_refl _) t (by rw [hQ];exact ht)
  have hQn:Q.length≤200:=by rw [← hQ];exact Nat.le_trans (hch.le n (Nat.le_refl _)) hn2
  have hrl:(runT Q).length≤4000000000:=by
   have h1:=runT_len Q (fun t ht=>(hQe t ht).2)
   have h3:1000001 * Q.length≤1000001 * 200:=Nat.mul_le_mul_left _ hQn
   omega
  have hcut:=runT_cut Q (fun t ht=>(hQe t ht).1.1)
  obtain ⟨K,hK⟩:∃ K,Q.length=K:=⟨_,rfl⟩
  obtain ⟨P,hP⟩:∃ P,Q.map (fun t=>t.data.toList ++ [10]) ++ [[]]=P:=⟨_,rfl⟩
  rw [hP] at hcut
  have hPl:P.length=K+1:=by rw [← hP,List.length_append,List.length_map,hK];rfl
  have hPK:P.getD K [] = []:=by
   rw [← hP,List.getD_eq_getElem?_getD,List.getElem?_append_right (by rw [List.length_map,hK];exact Nat.le_refl _),List.length_map,hK,Nat.sub_self]
   rfl
  have hPj:∀ j,j<K→∃ t,Line t∧P.getD j []=t.data.toList ++ [10]:=fun j hj=>by
   obtain ⟨t,ht⟩:∃ t,Q[j]? = some t:=⟨_,List.getElem?_eq_getElem (by omega)⟩
   refine ⟨t,(hQe t (List.mem_of_getElem? ht)).1,?_⟩
   rw [← hP,List.getD_eq_getElem?_getD,List.getElem?_append_left (by rw [List.length_map,hK];exact hj),List.getElem?_map,ht]
   rfl
  have HLn:=Lib.hid (fun w' (h:Below w.heap.size w w')=>lines_ok l hl6 n hn w' (HG.out w' h))
  rw [← hQl,hK,Hs.out] at HLn
  have HSp:=Lib.hid (fun w' (h:Below w.heap.size w w')=>splitA_ok 10 (runT Q) w' (HG.out w' h) hrl P hcut (K+1) hPl)
  rw [hg] at HSp
  have HPK:=Lib.hid hPK
  have HPj:=Lib.hid hPj
  have HPl:=Lib.hid hPl
  have n2:(n:Int)≤200:=by omega
  have hK2:K≤200:=by omega
  have kw:IntKind.i64.wrap ((K:Int)+1)=((K+1:Nat):Int):=by rw [IntWalk.i64_in _ (by omega)];omega
  have k1:(((K+1:Nat):Int) != ((K+1:Nat):Int))=false:=by simp
  clear hbig hn hl6 hn2 hQ hg hch hQl hQe hQn hrl hcut hK hP hPl hPK hPj
  have dn:decide ((n:Int)≤200)=true:=by simpa using n2
  go_wp2_with fail
  refine (HLn.out w2 HB2.out).mono ?_
  rintro e w3 ⟨A3,c3,rfl,hb3⟩
  have HB3:=Lib.hid (HB2.out.trans (hb3.mono HB2.out.size))
  clear hb3
  go_wp2_with fail
  refine (HSp.out w3 HB3.out).mono ?_
  rintro e w4 ⟨rfl,hr4,hb4⟩
  have HR4:=Lib.hid hr4
  have HB4:=Lib.hid (HB3.out.trans (hb4.mono HB3.out.size))
  have Z4:=Lib.hid hr4.1
  have hcK:w4.cell? ⟨w3.heap.size,K,none⟩=some (.string (ar [])):=by rw [hr4.2 K (by have:=HPl.out;omega),HPK.out]
  obtain ⟨te,hte⟩:∃ t,ar []=t:=⟨_,rfl⟩
  rw [hte] at hcK
  have eqe:(te.toList == [])=true:=by rw [← hte];exact lit_yes []
  clear hr4 hb4 hte
  go_wp2_with fail
  have HBf:=Lib.hid HB4.out
  clear hcK eqe k1 kw
  go_loopw [45] (fun i wr=>∃ q:Nat,i=.int .i64 q∧q≤K∧wr=w4) (fun i _=>K - (intOf i).toNat)
  case atStart=>exact ⟨0,rfl,Nat.zero_le _,rfl⟩
  case round=>
   obtain ⟨q,rfl,hq,rfl⟩:=hrel
   have qw:IntKind.i64.wrap ((q:Int)+1)=(q:Int)+1:=IntWalk.i64_in _ (by omega)
   by_cases hlt:q<K
   ·have lq:(q:Int)<K:=by omega
    have lq0:(0:Int)≤q:=by omega
    obtain ⟨t,ht,hpt⟩:=HPj.out q hlt
    have hc:=HR4.out.2 q (by have:=HPl.out;omega)
    rw [hpt] at hc
    obtain ⟨x,hx⟩:∃ x,t.data.toList ++ [(10:UInt8)]=x:=⟨_,rfl⟩
    rw [hx] at hc
    obtain ⟨tx,htx⟩:∃ tx,ar x=tx:=⟨_,rfl⟩
    rw [htx] at hc
    rcases ht.2 with ⟨r,hr⟩ | ⟨r,hr⟩
    ·have HP1:=Lib.hid (fun w'=>hasPre_ok x [111,107] true (by rw [← hx,hr];exact isPre [111,107] (r ++ [10])) w')
     rw [htx,show ar [111,107]=⟨#[111,107]⟩ from rfl] at HP1
     clear ht hpt hx htx hr
     go_wp2_with fail
     refine (HP1.out _).mono ?_
     rintro e w9 ⟨rfl,hw9⟩
     have hw9:=hw9.symm
     subst hw9
     go_wp2_with fail
     go_roundw
     case rel=>first | exact ⟨q+1,by go_num,by omega,trivial⟩ | exact ⟨q+1,by go_num,by omega,rfl⟩ | ((repeat apply Exists.intro);exact ⟨⟨q+1,by go_num,by omega,rfl⟩,rfl⟩)
     case measure=>first | (simp [intOf];done) | (simp [intOf];omega)
    ·have HP1:=Lib.hid (fun w'=>hasPre_ok x [111,107] false (by rw [← hx,hr];rfl) w')
     rw [htx,show ar [111,107]=⟨#[111,107]⟩ from rfl] at HP1
     have HP2:=Lib.hid (fun w'=>hasPre_ok x [101,114,114,111,114,32] true (by rw [← hx,hr];exact isPre [101,114,114,111,114,32] (r ++ [10])) w')
     rw [htx,show ar [101,114,114,111,114,32]=⟨#[101,114,114,111,114,32]⟩ from rfl] at HP2
     clear ht hpt hx htx hr
     go_wp2_with fail
     refine (HP1.out _).mono ?_
     rintro e w9 ⟨rfl,hw9⟩
     have hw9:=hw9.symm
     subst hw9
     go_wp2_with fail
     refine (HP2.out _).mono ?_
     rintro e w9 ⟨rfl,hw9⟩
     have hw9:=hw9.symm
     subst hw9
     go_wp2_with fail
     go_roundw
     case rel=>first | exact ⟨q+1,by go_num,by omega,trivial⟩ | exact ⟨q+1,by go_num,by omega,rfl⟩ | ((repeat apply Exists.intro);exact ⟨⟨q+1,by go_num,by omega,rfl⟩,rfl⟩)
     case measure=>first | (simp [intOf];done) | (simp [intOf];omega)
   ·obtain rfl:q=K:=by omega
    have lq:¬ (q:Int)<q:=by omega
    go_wp2_with fail
    go_ret
    exact ⟨rfl,HBf.out⟩
end Go.Proofs.YtnaebigoknfndaaGreatDoor
namespace Go.Proofs.YtnaebigoknfndaaGreatDoor.lawDeskLinesUpto
open Go.ChangeShapes Go.WideShapes Go.ChangeAt Go.RowKit Go.Joins
open Go.ChangeMaps (open_string shut_string)
theorem own:ownKnob Tryz.prog.godebug=none:=by kernel_rfl
theorem laidOut:laidOutB Tryz.prog=true:=by kernel_rfl
theorem laid_met (os:Os) (args:Array Value):laidMetH Tryz.prog Rows.deskLinesUptoRow.laid ((World.laidAll Tryz.prog os Rows.deskLinesUptoRow.laid).forCall (fun _ _=>0) ⟨#[],args,[]⟩).memory:=by
 rw [MakeChecks.laidMetH_plain _ _ _ (by kernel_rfl)]
 exact laidMet_laidAll _ (by kernel_rfl) (by kernel_rfl)
theorem shaped (os:Os) (args:Array Value):((World.laidAll Tryz.prog os Rows.deskLinesUptoRow.laid).forCall (fun _ _=>0) ⟨#[],args,[]⟩).Shaped Tryz.prog:=
 World.shaped_of_ZipB (by kernel_rfl) (by kernel_rfl)
theorem reads (os:Os) {H:Type} (enc:TypeId×Value→H):DataW.whole enc Tryz.prog ((World.laidAll Tryz.prog os Rows.deskLinesUptoRow.laid).forCall (fun _ _=>0) ⟨#[],#[.string ByteArray.empty],[]⟩).memory Tryz.f3.params.toList Rows.deskLinesSpec.vars false (#[.string ByteArray.empty]:Array Value).toList 8=some ([.lit (.string [])],[],[]):=by kernel_rfl
theorem lifted (os:Os) (started:os.Started) (H:Type) (enc:TypeId×Value→H) (F:Stop.Interp) :
  ReturnsInHanded {} Tryz.checked os 3 .any ((Rows.OpenSpec.upto Rows.deskLinesSpec).preRow enc Tryz.prog Tryz.f3 Rows.deskLinesUptoRow.domain false Rows.deskLinesUptoRow.laid) (((Rows.OpenSpec.upto Rows.deskLinesSpec).at F).post enc Tryz.prog Tryz.f3 false true false false):=by
 refine returnsInHanded_of_row (C:=Tryz.checked) (s:=Rows.OpenSpec.upto Rows.deskLinesSpec) own started (by kernel_rfl) Tryz.func3
  ⟨World.laidAll Tryz.prog os Rows.deskLinesUptoRow.laid,fun _ _=>0,⟨#[],#[.string ByteArray.empty],[]⟩,World.laidAll_os _ _ _,shaped os _,rfl,⟨(Input.okWide_of_okWideB (base:=0) (by kernel_rfl)).2,OpenSpec.preRow_of_cond 8 (reads os enc) (by kernel_rfl) (fun k hk=>by cases hk;kernel_rfl) (by kernel_rfl) (laid_met os _),by
   simp only [Assume.holds]
   exact ⟨by simp,by simp,fun _=>Modest.zero,by simp,by simp⟩⟩⟩ ?_
 intro W base args ds gs before hval0 hW _ hcond _ hL hS _
 have hval:∀ (j:Nat) t v,Tryz.f3.params[j]? = some t→args[j]? = some v→Value.okWide Tryz.prog W .any base t v:=hval0
 have hW':=hW
 obtain ⟨p,q,hA0,hV,rfl,hfz,hnd⟩:=hW
 have hA:DataW.TrodAll enc Tryz.prog W 0 (fun _=>true) true Tryz.f3.params.toList args.toList ds p:=hA0
 rw [Tryz.params3] at hA hval
 obtain ⟨v0,vs0,d0,ds0,p0,q0,hargs,rfl,rfl,h0,r0⟩:=trodAll_cons hA
 obtain ⟨rfl,rfl,rfl⟩:=trodAll_nil r0
 obtain rfl:args = #[v0]:=by cases args;simp_all
 obtain ⟨rfl,rfl⟩:=trodVars_none hV
 have k0:=h0
 have lt0:∀ x∈p0,x.block<W.heap.size:=by obtain ⟨m,hm⟩:=k0;exact DataW.trod_lt m _ _ _ hm
 obtain ⟨a0,rfl,e0,_,w0⟩:=open_string Tryz.underlying9 (hval 0 9 v0 rfl rfl) h0
 subst e0
 have hbulk:=of_decide_eq_true (hcond _ rfl)
 simp only [List.cons_append,List.nil_append,Rows.uptoBulkAll,Rows.uptoBulk] at hbulk
 have g:=gok_of hL hS
 clear hA0 hval0
 refine (dl_walk a0.data.toList (show a0.data.toList.length≤1048576 by omega) W g).mono fun e W' ⟨he,bel⟩=>?_
 subst he
 exact ⟨_,rfl,_,_,_,[],_,[],hW',trodAll_mk1 (shut_bool Tryz.underlying4 _),(trodAll_cons_mk (Below.trod laidOut (by kernel_rfl) (of_decide_eq_true (by kernel_rfl)) k0 bel lt0) trodAll_mk0),rfl,bel.frame _,fun h=>by cases h⟩
theorem said:Rows.DeskLinesUptoSaid:=
 OpenClaim.holds_of_cond 3 Tryz.f3 rfl rfl rfl rfl rfl rfl rfl ⟨rfl,rfl,rfl,rfl,rfl⟩ rfl rfl rfl rfl rfl (by kernel_rfl) Tryz.func3 (by kernel_rfl)
  (of_decide_eq_true (by kernel_rfl)) (by unfold Func.isWrapper;first | (rw [if_pos (by decide +kernel)];kernel_rfl) | (rw [if_neg (by decide +kernel)];exact ⟨rfl,rfl⟩))
  (fun os started H enc _ F=>by rw [OpenClaim.pre_eq_preRow];exact lifted os started H enc F)
theorem plain (f:FuncId) (fn:Func) (hf:Tryz.pinned.checked.prog.funcNamed "heartwood/hwkeep.DeskLines" = some f) (hfn:Tryz.pinned.checked.prog.funcs[f]? = some fn) :
  true=Tryz.pinned.checked.prog.looks []∧∀ (j:Nat) t,fn.params[j]? = some t→Tryz.pinned.checked.prog.wantsStandIn t=false:=by
 obtain rfl:f=3:=Option.some.inj ((show Tryz.prog.funcNamed "heartwood/hwkeep.DeskLines" = some 3 by kernel_rfl).symm.trans hf) |>.symm
 obtain rfl:fn=Tryz.f3:=(Option.some.inj (Tryz.func3.symm.trans hfn)).symm
 refine ⟨by kernel_rfl,fun j t ht=>?_⟩
 rw [Tryz.params3] at ht
 have hm:t ∈ [9]:=by simpa using Array.mem_of_getElem? ht
 have hall:([9].all fun u=>!Tryz.prog.wantsStandIn u)=true:=by kernel_rfl
 exact (show Tryz.prog.wantsStandIn t=false by simpa using List.all_eq_true.1 hall t hm)
theorem proved:Rows.DeskLinesUptoCardSaid:=
 Claim7.holds_tied_plain_at .later [] _ _ _ _ said (fun _ h=>by cases h) (by kernel_rfl) (fun _ h=>by cases h) deskLinesUpto_row_tie rfl ⟨rfl,rfl⟩ (by kernel_rfl) rfl plain (by kernel_rfl)
end Go.Proofs.YtnaebigoknfndaaGreatDoor.lawDeskLinesUpto

/- DeskBegins, as the card states it up to a machine's sizes: what a script has been answered is where the answer to a longer one begins; no condition but the card's own. -/
import Derived.Test.YtnaebigoknfndaaGreatDoorE01
import Derived.Test.YtnaebigoknfndaaGreatDoorE27
import Derived.Test.YtnaebigoknfndaaGreatDoorCards
import Derived.Test.YtnaebigoknfndaaGreatDoorTie
import Derived.WalkKit
import Derived.ProofKit
import Derived.OpenShut
import Derived.ShutString
import Derived.ChangeOld
import Derived.Below
import Derived.Lib.SmallJoins
import Derived.Deep.DeepHandedRow
import Derived.Lay
set_option linter.unusedVariables false
set_option linter.unusedSimpArgs false
set_option maxRecDepth 100000
set_option maxHeartbeats 20000000
namespace Go.Proofs.YtnaebigoknfndaaGreatDoor
open Go Go.RowKit
theorem join_flat (xs:List Bs):Lib.join xs []=xs.flatten:=by
 cases xs with
 | nil=>rfl
 | cons x r=>rw [Lib.join_cons];simp [Lib.joinTail]
theorem take_min {α:Type} (L:List α) (m:Nat):L.take m=L.take (min m L.length):=by
 rcases Nat.le_total m L.length with h | h
 ·rw [Nat.min_eq_left h]
 ·rw [Nat.min_eq_right h,List.take_length,List.take_of_length_le h]
theorem flat_take (P:List Bs) (k:Nat):(P.take k).flatten.length≤P.flatten.length:=by
 conv=>rhs;rw [← List.take_append_drop k P,List.flatten_append,List.length_append]
 omega
theorem join_ok (b k c:Nat) (P:List Bs) (w:World) (hr:StrRow w b P) (hk:k≤P.length) (hc:k≤c) (h1:P.length≤1048577) (hz:P.flatten.length≤1048576) :
  Calls Tryz.prog 10 #[.slice (some ⟨b,0,none⟩) k c,.string ⟨#[]⟩] w fun e w'=>e=.returned (.string (ar (P.take k).flatten))∧Below w.heap.size w w':=by
 have hl:((P.take k).map ar).length=k:=by rw [List.length_map,List.length_take];omega
 have hm:((P.take k).map ar).map (·.data.toList)=P.take k:=by
  rw [List.map_map]
  conv=>rhs;rw [← List.map_id (P.take k)]
  rfl
 have hj:Lib.join (((P.take k).map ar).map (·.data.toList)) (ByteArray.mk #[]).data.toList=(P.take k).flatten:=by
  rw [hm];exact join_flat _
 have:=Tryz.strings_Join b 0 c ((P.take k).map ar) ⟨#[]⟩ w (fun j x hx=>by
  have hjk:j<k:=by
   have:=(List.getElem?_eq_some_iff.1 hx).1
   omega
  rw [Nat.zero_add,hr.2 j (by omega)]
  rw [List.getElem?_map,List.getElem?_take_of_lt hjk,List.getElem?_eq_getElem (by omega)] at hx
  rw [List.getD_eq_getElem?_getD,List.getElem?_eq_getElem (by omega)]
  injection hx with hx
  rw [← hx]
  rfl) hr.1 (by rw [hl];omega) (by rw [hl];exact hc) (by rw [hj];have:=flat_take P k;omega)
 rw [hl,hj] at this
 exact this
theorem db_walk (l:Bs) (hz:l.length≤1048576) (k:Int) (w:World) (g:GOK w) :
  Calls Tryz.prog 4 #[.string (ar l),.int .i64 k] w fun e w'=>e=.returned (.bool true)∧Below w.heap.size w w':=by
 obtain ⟨T,St,ch⟩:=chain_ex (linesL l) (fun x hx=>Nat.le_trans (linesL_mem hx) hz) (linesL l).length
 have h10:=g.low
 have HM:=Lib.hid (run_root w g)
 have HR:=Lib.hid (fun w' (h:Below w.heap.size w w')=>run_any l hz T St ch w' (g.below h h10))
 have HG:=Lib.hid (fun w' (h:Below w.heap.size w w')=>g.below h h10)
 obtain ⟨P,hP⟩:∃ P,cutL 10 [10] l=P:=⟨_,rfl⟩
 obtain ⟨m,hm⟩:∃ m,P.length=m:=⟨_,rfl⟩
 have hm0:0<m:=by rw [← hm,← hP];exact List.length_pos_iff.2 (cutL_ne _ _ _)
 have hmz:m≤1048577:=by have:=cutL_len 10 [10] l;rw [hP,hm] at this;omega
 have hPf:P.flatten=l:=by rw [← hP];exact cutL_flat 10 l
 have HSp:=Lib.hid (fun w' (h:Below w.heap.size w w')=>splitA_ok 10 l w' (g.below h h10) (by omega) P hP m hm)
 obtain ⟨x,hx⟩:∃ x,within k m=x:=⟨_,rfl⟩
 have hbd:=within_bd k (n:=(m:Int)) (by omega)
 rw [hx] at hbd
 have HW:=Lib.hid (fun w'=>within_any k m x w' (by omega) (by omega) hx)
 obtain ⟨kk,rfl⟩:∃ kk:Nat,x=kk:=⟨x.toNat,by omega⟩
 obtain ⟨l2,hl2⟩:∃ l2,(P.take kk).flatten=l2:=⟨_,rfl⟩
 obtain ⟨mm,hmm⟩:=lines_begin l.length l kk (Nat.le_refl _)
 rw [hP,hl2,take_min] at hmm
 obtain ⟨n2,hn2⟩:∃ n2,min mm (linesL l).length=n2:=⟨_,rfl⟩
 rw [hn2] at hmm
 have hn2l:n2≤(linesL l).length:=by omega
 have hl2z:l2.length≤l.length:=by rw [← hl2,← hPf];exact flat_take P kk
 have hl2n:(linesL l2).length=n2:=by rw [hmm,List.length_take];omega
 have ch2:Chain (linesL l2) (linesL l2).length T St:=by rw [hl2n,hmm];exact ch.take hn2l
 have HR2:=Lib.hid (fun w' (h:Below w.heap.size w w')=>run_any l2 (by omega) T St ch2 w' (g.below h h10))
 have HJ:=Lib.hid (fun w' b c (hr:StrRow w' b P) (hc:kk≤c)=>join_ok b kk c P w' hr (by omega) hc (by omega) (by rw [hPf];exact hz))
 have HPre:=Lib.hid (show runR l T≠bigB→∃ A B,runR l T=ar A∧runR l2 T=ar B∧B.isPrefixOf A=true by
  intro hne
  by_cases hs:l.length≤65536∧(linesL l).length≤200
  ·obtain ⟨R,hR⟩:=ch.pre ((linesL l).length - n2) n2 (by omega)
   refine ⟨runT (T (linesL l).length),runT (T n2),by unfold runR;rw [if_pos hs],by unfold runR;rw [hl2n,if_pos ⟨by omega,by omega⟩],?_⟩
   rw [show (linesL l).length=n2+((linesL l).length - n2) by omega,hR,runT_app]
   exact isPre _ _
  ·exact absurd (by unfold runR;rw [if_neg hs]) hne)
 obtain ⟨s,hs⟩:∃ s,ar l=s:=⟨_,rfl⟩
 rw [hs] at HR HSp ⊢
 obtain ⟨tm,htm⟩:∃ t,ByteArray.mk #[111,107,32,52,10,101,114,114,111,114,32,49,49,10]=t:=⟨_,rfl⟩
 rw [htm] at HM
 have eqm:(tm.toList == [111,107,32,52,10,101,114,114,111,114,32,49,49,10])=true:=by rw [← htm];exact lit_yes _
 obtain ⟨gt,hgt⟩:∃ t,runR l T=t:=⟨_,rfl⟩
 obtain ⟨g2,hg2⟩:∃ t,runR l2 T=t:=⟨_,rfl⟩
 obtain ⟨s2,hs2⟩:∃ s,ar l2=s:=⟨_,rfl⟩
 rw [hgt] at HR HPre
 rw [hg2] at HR2 HPre
 rw [hl2] at HJ
 rw [hs2] at HR2 HJ
 have kn:(kk:Int)<m:=hbd.2
 have km:kk≤m:=by omega
 clear g ch ch2 hs htm hgt hg2 hz hP hm hPf hx hbd hl2 hmm hn2 hn2l hl2z hl2n hs2
 go_enter Tryz.func4,Tryz.ntmps4
 go_wp2_with fail
 refine HM.out.mono ?_
 rintro e w1 ⟨rfl,hb1⟩
 have HB1:=Lib.hid hb1
 clear hb1
 go_wp2_with fail
 refine (HSp.out w1 HB1.out).mono ?_
 rintro e w2 ⟨rfl,hr2,hb2⟩
 have HRo:=Lib.hid hr2
 have Z2:=Lib.hid hr2.1
 have HB2:=Lib.hid (HB1.out.trans (hb2.mono HB1.out.size))
 clear hr2 hb2
 go_wp2_with fail
 refine (HW.out w2).mono ?_
 rintro e w3 ⟨rfl,hw3⟩
 subst hw3
 go_wp2_with fail
 refine (HR.out w2 HB2.out).mono ?_
 rintro e w4 ⟨rfl,hb4⟩
 have HRo4:=Lib.hid (HRo.out.below hb4)
 have HB4:=Lib.hid (HB2.out.trans (hb4.mono HB2.out.size))
 clear hb4
 by_cases hbig:gt=bigB
 ·have eqb:(gt.toList == [101,114,114,111,114,32,50,10])=true:=by rw [hbig];exact lit_yes _
  clear hbig
  go_wp2_with fail
  go_ret
  exact ⟨rfl,HB4.out⟩
 ·have eqb:(gt.toList == [101,114,114,111,114,32,50,10])=false:=lit_no hbig
  obtain ⟨A,B,hA,hB,hAB⟩:=HPre.out hbig
  have HP:=Lib.hid (fun w'=>hasPre_ok A B true hAB w')
  rw [← hA,← hB] at HP
  clear hbig hA hB hAB
  go_wp2_with fail
  refine (HJ.out _ _ _ HRo4.out (by omega)).mono ?_
  rintro e w5 ⟨rfl,hb5⟩
  have HB5:=Lib.hid (HB4.out.trans (hb5.mono HB4.out.size))
  clear hb5
  go_wp2_with fail
  refine (HR2.out _ HB5.out).mono ?_
  rintro e w6 ⟨rfl,hb6⟩
  have HB6:=Lib.hid (HB5.out.trans (hb6.mono HB5.out.size))
  clear hb6
  go_wp2_with fail
  refine (HP.out _).mono ?_
  rintro e w7 ⟨rfl,hw7⟩
  have hw7:=hw7.symm
  subst hw7
  go_wp2_with fail
  go_ret
  exact ⟨rfl,HB6.out⟩
end Go.Proofs.YtnaebigoknfndaaGreatDoor
namespace Go.Proofs.YtnaebigoknfndaaGreatDoor.lawDeskBeginsUpto
open Go.ChangeShapes Go.WideShapes Go.ChangeAt Go.RowKit Go.Joins
open Go.ChangeMaps (open_string shut_string)
theorem own:ownKnob Tryz.prog.godebug=none:=by kernel_rfl
theorem laidOut:laidOutB Tryz.prog=true:=by kernel_rfl
theorem laid_met (os:Os) (args:Array Value):laidMetH Tryz.prog Rows.deskBeginsUptoRow.laid ((World.laidAll Tryz.prog os Rows.deskBeginsUptoRow.laid).forCall (fun _ _=>0) ⟨#[],args,[]⟩).memory:=by
 rw [MakeChecks.laidMetH_plain _ _ _ (by kernel_rfl)]
 exact laidMet_laidAll _ (by kernel_rfl) (by kernel_rfl)
theorem shaped (os:Os) (args:Array Value):((World.laidAll Tryz.prog os Rows.deskBeginsUptoRow.laid).forCall (fun _ _=>0) ⟨#[],args,[]⟩).Shaped Tryz.prog:=
 World.shaped_of_ZipB (by kernel_rfl) (by kernel_rfl)
theorem reads (os:Os) {H:Type} (enc:TypeId×Value→H):DataW.whole enc Tryz.prog ((World.laidAll Tryz.prog os Rows.deskBeginsUptoRow.laid).forCall (fun _ _=>0) ⟨#[],#[.string ByteArray.empty,.int .i64 0],[]⟩).memory Tryz.f4.params.toList Rows.deskBeginsSpec.vars false (#[.string ByteArray.empty,.int .i64 0]:Array Value).toList 8=some ([.lit (.string []),.lit (.int .i64 0)],[],[]):=by kernel_rfl
theorem lifted (os:Os) (started:os.Started) (H:Type) (enc:TypeId×Value→H) (F:Stop.Interp) :
  ReturnsInHanded {} Tryz.checked os 4 .any ((Rows.OpenSpec.upto Rows.deskBeginsSpec).preRow enc Tryz.prog Tryz.f4 Rows.deskBeginsUptoRow.domain false Rows.deskBeginsUptoRow.laid) (((Rows.OpenSpec.upto Rows.deskBeginsSpec).at F).post enc Tryz.prog Tryz.f4 false true false false):=by
 refine returnsInHanded_of_row (C:=Tryz.checked) (s:=Rows.OpenSpec.upto Rows.deskBeginsSpec) own started (by kernel_rfl) Tryz.func4
  ⟨World.laidAll Tryz.prog os Rows.deskBeginsUptoRow.laid,fun _ _=>0,⟨#[],#[.string ByteArray.empty,.int .i64 0],[]⟩,World.laidAll_os _ _ _,shaped os _,rfl,⟨(Input.okWide_of_okWideB (base:=0) (by kernel_rfl)).2,OpenSpec.preRow_of_cond 8 (reads os enc) (by kernel_rfl) (fun k hk=>by cases hk;kernel_rfl) (by kernel_rfl) (laid_met os _),by
   simp only [Assume.holds]
   exact ⟨by simp,by simp,fun _=>Modest.zero,by simp,by simp⟩⟩⟩ ?_
 intro W base args ds gs before hval0 hW _ hcond _ hL hS _
 have hval:∀ (j:Nat) t v,Tryz.f4.params[j]? = some t→args[j]? = some v→Value.okWide Tryz.prog W .any base t v:=hval0
 have hW':=hW
 obtain ⟨p,q,hA0,hV,rfl,hfz,hnd⟩:=hW
 have hA:DataW.TrodAll enc Tryz.prog W 0 (fun _=>true) true Tryz.f4.params.toList args.toList ds p:=hA0
 rw [Tryz.params4] at hA hval
 obtain ⟨v0,vs0,d0,ds0,p0,q0,hargs,rfl,rfl,h0,r0⟩:=trodAll_cons hA
 obtain ⟨v1,vs1,d1,ds1,p1,q1,rfl,rfl,rfl,h1,r1⟩:=trodAll_cons r0
 obtain ⟨rfl,rfl,rfl⟩:=trodAll_nil r1
 obtain rfl:args = #[v0,v1]:=by cases args;simp_all
 obtain ⟨rfl,rfl⟩:=trodVars_none hV
 have k0:=h0
 have lt0:∀ x∈p0,x.block<W.heap.size:=by obtain ⟨m,hm⟩:=k0;exact DataW.trod_lt m _ _ _ hm
 obtain ⟨a0,rfl,e0,_,w0⟩:=open_string Tryz.underlying9 (hval 0 9 v0 rfl rfl) h0
 subst e0
 have k1:=h1
 have lt1:∀ x∈p1,x.block<W.heap.size:=by obtain ⟨m,hm⟩:=k1;exact DataW.trod_lt m _ _ _ hm
 obtain ⟨a1,rfl,_,_,w1⟩:=open_int Tryz.underlying3 (hval 1 3 v1 rfl rfl) h1
 have hbulk:=of_decide_eq_true (hcond _ rfl)
 simp only [List.cons_append,List.nil_append,Rows.uptoBulkAll,Rows.uptoBulk] at hbulk
 have g:=gok_of hL hS
 clear hA0 hval0
 refine (db_walk a0.data.toList (show a0.data.toList.length≤1048576 by omega) a1 W g).mono fun e W' ⟨he,bel⟩=>?_
 subst he
 exact ⟨_,rfl,_,_,_,[],_,[],hW',trodAll_mk1 (shut_bool Tryz.underlying4 _),(trodAll_cons_mk (Below.trod laidOut (by kernel_rfl) (of_decide_eq_true (by kernel_rfl)) k0 bel lt0) (trodAll_cons_mk (Below.trod laidOut (by kernel_rfl) (of_decide_eq_true (by kernel_rfl)) k1 bel lt1) trodAll_mk0)),rfl,bel.frame _,fun h=>by cases h⟩
theorem said:Rows.DeskBeginsUptoSaid:=
 OpenClaim.holds_of_cond 4 Tryz.f4 rfl rfl rfl rfl rfl rfl rfl ⟨rfl,rfl,rfl,rfl,rfl⟩ rfl rfl rfl rfl rfl (by kernel_rfl) Tryz.func4 (by kernel_rfl)
  (of_decide_eq_true (by kernel_rfl)) (by unfold Func.isWrapper;first | (rw [if_pos (by decide +kernel)];kernel_rfl) | (rw [if_neg (by decide +kernel)];exact ⟨rfl,rfl⟩))
  (fun os started H enc _ F=>by rw [OpenClaim.pre_eq_preRow];exact lifted os started H enc F)
theorem plain (f:FuncId) (fn:Func) (hf:Tryz.pinned.checked.prog.funcNamed "heartwood/hwkeep.DeskBegins" = some f) (hfn:Tryz.pinned.checked.prog.funcs[f]? = some fn) :
  true=Tryz.pinned.checked.prog.looks []∧∀ (j:Nat) t,fn.params[j]? = some t→Tryz.pinned.checked.prog.wantsStandIn t=false:=by
 obtain rfl:f=4:=Option.some.inj ((show Tryz.prog.funcNamed "heartwood/hwkeep.DeskBegins" = some 4 by kernel_rfl).symm.trans hf) |>.symm
 obtain rfl:fn=Tryz.f4:=(Option.some.inj (Tryz.func4.symm.trans hfn)).symm
 refine ⟨by kernel_rfl,fun j t ht=>?_⟩
 rw [Tryz.params4] at ht
 have hm:t ∈ [9,3]:=by simpa using Array.mem_of_getElem? ht
 have hall:([9,3].all fun u=>!Tryz.prog.wantsStandIn u)=true:=by kernel_rfl
 exact (show Tryz.prog.wantsStandIn t=false by simpa using List.all_eq_true.1 hall t hm)
theorem proved:Rows.DeskBeginsUptoCardSaid:=
 Claim7.holds_tied_plain_at .later [] _ _ _ _ said (fun _ h=>by cases h) (by kernel_rfl) (fun _ h=>by cases h) deskBeginsUpto_row_tie rfl ⟨rfl,rfl⟩ (by kernel_rfl) rfl plain (by kernel_rfl)
end Go.Proofs.YtnaebigoknfndaaGreatDoor.lawDeskBeginsUpto

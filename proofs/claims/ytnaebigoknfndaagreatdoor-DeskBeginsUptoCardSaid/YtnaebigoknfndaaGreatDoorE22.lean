/- What the desk's two laws lean on: part 22 (contracts and plain laws; their conditions stand in each). -/
import Derived.Test.YtnaebigoknfndaaGreatDoorE01
import Derived.Test.YtnaebigoknfndaaGreatDoorE17
import Derived.Test.YtnaebigoknfndaaGreatDoorE21
import Derived.Test.YtnaebigoknfndaaGreatDoorE04
import Derived.Maps.AppendAt
import Derived.Deep.DeepCutAuto
import Derived.Test.YtnaebigoknfndaaGreatDoorE10
import Derived.Test.YtnaebigoknfndaaGreatDoorE07
import Derived.RangeFuncBox
import Derived.RangeFuncLeaves
import Derived.Shelf.Abstract
import Derived.WalkKit
import Derived.OwnWalkIn
import Derived.TacticsInMore
import Derived.LoopNIn
import Derived.LoopIn
import Derived.Lib.SlKeysI
import Derived.Test.YtnaebigoknfndaaGreatDoorE02
import Derived.Test.YtnaebigoknfndaaGreatDoorE06
set_option linter.unusedVariables false
set_option linter.unusedSimpArgs false
set_option maxRecDepth 100000
set_option maxHeartbeats 20000000
namespace Go.Proofs.YtnaebigoknfndaaGreatDoor
open Go Go.RowKit Go.Maps
theorem wp_append_row {w:World} {o:Oper} {a:Act} {K:Act→World→Prop} {Q:Exit→Act→World→Prop} (s x:Operand) (t:TypeId)
  (ho:o.op=.call { callee:=.builtin .append,args:=#[s,x],argTypes:=#[t,t] })
  (base base2 e:Nat) (i:TypeInfo) (z:Value) (size bytes:Nat) (ht:Tryz.prog.underlying t=some (.slice e)) (hi:Tryz.prog.info? e=some i) (hz:i.zero=some z)
  (hsize:i.size=size) (hby:i.bytes=bytes) (hzs:z.cells.size=size) (hsz:0<size)
  (v:Value) (n:Nat) (xs:List Value) (hs:a.eval s=v) (hown:w.ownsRow base e size v n xs)
  (A:Option Addr) (m c:Nat) (ys:List Value) (hx:a.eval x=.slice A m c) (hr:w.ownsRow base2 e size (.slice A m c) m ys) (h1:∀ u∈ys,u.oneCell'=true)
  (h63:n+m≤maxLen) (hbytes:(n+m) * bytes≤140737488355328) (hbase:base≤w.heap.size)
  (h:∀ v' w',w'.ownsRow base e size v' (n+m) (xs++ys)→w.grownBy w' v.ownBlock→K (a.put o.dst v') w'):o.wp Tryz.prog a w K Q:=by
 rcases A with _ | ad
 ·obtain ⟨A',c',he,h1,h2,h3⟩:=own_form hr
  simp only [Value.slice.injEq] at he
  obtain ⟨rfl,_,rfl⟩:=he
  obtain ⟨rfl,rfl⟩:=h3 rfl
  have e0:ys = []:=by have:=hr.1;exact List.eq_nil_of_length_eq_zero (by simpa using this)
  subst e0
  have hrun:=run_append_owned_none (P:=Tryz.prog) (w:=w) base t o.type e i size ht hi v n _ hown
  unfold Oper.wp
  simp [execOp,ho,resolve,invoke,builtin,hs,hx,hrun,Result.andThen]
  exact h v w (by simpa using hown) ⟨rfl,rfl,rfl,Nat.le_refl _,fun _ _ _=>rfl⟩
 ·obtain ⟨v',w',hr',h2,h3,h4,h5⟩:=run_append_own_at (P:=Tryz.prog) w base t o.type e i z size bytes ht hi hz hsize hby hzs hsz v n xs hown ad m c ys hr.1 (own_cells0 hr) h1 h63 hbytes hbase
  unfold Oper.wp execOp
  simp only [ho,resolve,invoke,builtin,Sem.run_bind,Sem.run_pure,Result.andThen_ok,List.map_toArray,List.map_cons,List.map_nil,hs,hx,hr']
  exact h v' w' h2 h3
theorem wp_append_at {w:World} {o:Oper} {a:Act} {K:Act→World→Prop} {Q:Exit→Act→World→Prop} (s x:Operand) (t:TypeId)
  (ho:o.op=.call { callee:=.builtin .append,args:=#[s,x],argTypes:=#[t,t] })
  (base e:Nat) (i:TypeInfo) (z:Value) (size bytes:Nat) (ht:Tryz.prog.underlying t=some (.slice e)) (hi:Tryz.prog.info? e=some i) (hz:i.zero=some z)
  (hsize:i.size=size) (hby:i.bytes=bytes) (hzs:z.cells.size=size) (hsz:0<size)
  (v:Value) (n:Nat) (xs:List Value) (hs:a.eval s=v) (hown:w.ownsRow base e size v n xs)
  (ad:Addr) (m c:Nat) (ys:List Value) (hx:a.eval x=.slice (some ad) m c) (hl:ys.length=m * size) (hnews:∀ j u,ys[j]? = some u→w.cell? (ad.add j)=some u) (h1:∀ u∈ys,u.oneCell'=true)
  (h63:n+m≤maxLen) (hbytes:(n+m) * bytes≤140737488355328) (hbase:base≤w.heap.size)
  (h:∀ v' w',w'.ownsRow base e size v' (n+m) (xs++ys)→w.grownBy w' v.ownBlock→K (a.put o.dst v') w'):o.wp Tryz.prog a w K Q:=by
 obtain ⟨v',w',hr',h2,h3,h4,h5⟩:=run_append_own_at (P:=Tryz.prog) w base t o.type e i z size bytes ht hi hz hsize hby hzs hsz v n xs hown ad m c ys hl hnews h1 h63 hbytes hbase
 unfold Oper.wp execOp
 simp only [ho,resolve,invoke,builtin,Sem.run_bind,Sem.run_pure,Result.andThen_ok,List.map_toArray,List.map_cons,List.map_nil,hs,hx,hr']
 exact h v' w' h2 h3
def moreC (S:DSt) (c:Cfg):DSt:={ S with n:=S.n+1,C:=fun j=>if j=S.n then c else S.C j }
theorem moreC_row (S:DSt) (c:Cfg):cfgV (moreC S c).C (moreC S c).n=cfgV S.C S.n++cfC c:=by
 unfold moreC cfgV
 dsimp only
 rw [List.range_succ,List.flatMap_append]
 congr 1
 ·unfold List.flatMap
  congr 1
  apply List.map_congr_left
  intro j hj
  have:=List.mem_range.1 hj
  rw [if_neg (by omega)]
 ·simp
theorem cfgE_ok {c:Cfg} (h:cfgE c=0):CfgOK c:=by
 unfold cfgE at h
 split at h
 ·cases h
 ·split at h
  ·rename_i h1 h2
   exact ⟨by simpa using h1,h2.1,h2.2.1,h2.2.2⟩
  ·cases h
theorem cfgE_bd (c:Cfg):0≤cfgE c∧cfgE c≤3:=by
 unfold cfgE
 split
 ·decide
 ·split <;> decide
theorem moreC_at (S:DSt) (c:Cfg):(moreC S c).C S.n=c:=by show (if S.n=S.n then c else _)=c;rw [if_pos rfl]
theorem moreC_old (S:DSt) (c:Cfg) {j:Nat} (h:j<S.n):(moreC S c).C j=S.C j:=by show (if j=S.n then c else _)=_;rw [if_neg (by omega)]
theorem new_more (S:DSt) (ok:DOK S) (hS:S.town=none) (c:Cfg) (hz:c.id.size≤1048576):∃ e0:Int,(0≤e0∧e0≤11)∧(e0=0→DOK (moreC S c))∧∀ w base A cl,w.ownsRow base 106 5 (.slice A (S.n+1) cl) (S.n+1) (cfgV (moreC S c).C (S.n+1)) →
  Calls Tryz.prog 76 #[.slice A (S.n+1) cl] w fun e w'=>∃ tv,e=.returned (.tuple #[.pointer tv,.int .i64 e0])∧Below w.heap.size w w':=by
 have h5:=ok.n
 by_cases hn:S.n=5
 ·refine ⟨2,by decide,fun h=>(by cases h),fun w base A cl own=>(tnew_many A _ cl w (by omega)).mono ?_⟩
  rintro e w' ⟨rfl,hb⟩
  exact ⟨_,rfl,hb⟩
 ·have hC:∀ j,j<S.n→CfgOK ((moreC S c).C j):=fun j hj=>by rw [moreC_old S c hj];exact ok.C j hj
  have hne:∀ i j,i<S.n→j<S.n→((moreC S c).C i).id=((moreC S c).C j).id→i=j:=fun i j hi hj=>by rw [moreC_old S c hi,moreC_old S c hj];exact ok.ne i j hi hj
  by_cases hc:cfgE c=0
  ·by_cases hd:∃ i,i<S.n∧(S.C i).id=c.id
   ·refine ⟨5,by decide,fun h=>(by cases h),fun w base A cl own=>(tnew_dup (S.n+1) cl base S.n A (moreC S c).C 0 w own ⟨by omega,by omega⟩ rfl hC hne ?_).mono ?_⟩
    ·rw [moreC_at]
     obtain ⟨i,h1,h2⟩:=hd
     exact ⟨cfgE_ok hc,i,h1,by rw [moreC_old S c h1];exact h2⟩
    ·rintro e w' ⟨rfl,hb⟩
     exact ⟨_,rfl,hb⟩
   ·have hC':∀ j,j<S.n+1→CfgOK ((moreC S c).C j):=fun j hj=>by
     by_cases e:j=S.n
     ·subst e;rw [moreC_at];exact cfgE_ok hc
     ·exact hC j (by omega)
    have hne':∀ i j,i<S.n+1→j<S.n+1→((moreC S c).C i).id=((moreC S c).C j).id→i=j:=fun i j hi hj he=>by
     by_cases e1:i=S.n
     ·by_cases e2:j=S.n
      ·omega
      ·exfalso
       subst e1
       rw [moreC_at,moreC_old S c (show j<S.n by omega)] at he
       exact hd ⟨j,by omega,he.symm⟩
     ·by_cases e2:j=S.n
      ·exfalso
       subst e2
       rw [moreC_at,moreC_old S c (show i<S.n by omega)] at he
       exact hd ⟨i,by omega,he⟩
      ·exact hne i j (by omega) (by omega) he
    refine ⟨0,by decide,fun _=>⟨by show S.n+1≤5;omega,hC',hne',fun T hT=>by rw [show (moreC S c).town=S.town from rfl,hS] at hT;cases hT⟩,fun w base A cl own=>(tnew_ok (S.n+1) cl base A (moreC S c).C w own ⟨by omega,by omega⟩ hC' hne').mono ?_⟩
    rintro e w' ⟨t,f,rfl,_,_,hb⟩
    exact ⟨_,rfl,hb⟩
  ·have hb:=cfgE_bd c
   refine ⟨cfgE c,by omega,fun h=>absurd h hc,fun w base A cl own=>(tnew_bad (S.n+1) cl base S.n A (moreC S c).C (cfgE c) w own ⟨by omega,by omega⟩ rfl hC hne (by rw [moreC_at];exact hz) (by rw [moreC_at];exact ⟨hc,rfl⟩)).mono ?_⟩
   rintro e w' ⟨rfl,hb⟩
   exact ⟨_,rfl,hb⟩
end Go.Proofs.YtnaebigoknfndaaGreatDoor
namespace Go.Proofs.YtnaebigoknfndaaGreatDoor
open Go Go.RowKit Go.Maps
theorem cfC_one (c:Cfg):∀ u∈cfC c,u.oneCell'=true:=by
 intro u hu
 simp [cfC] at hu
 rcases hu with rfl | rfl | rfl | rfl | rfl <;> rfl
theorem new5_cells (w:World) (c:Cfg) (T:TypeId):∀ j u,(cfC c)[j]? = some u→(w.alloc (.cells #[.string c.id,.int .i64 0,.int .i64 c.every,.int .i64 c.cap,.int .i64 c.least] T)).cell? ((⟨w.heap.size,0,none⟩:Addr).add j)=some u:=by
 intro j u hj
 rw [Go.WideShapes.add_plain,Nat.zero_add,alloc_cells,if_neg (by omega),if_pos rfl,← hj]
 simp [cfC]
theorem cnode_ex (S:DSt) (ok:DOK S) (c:Cfg) (hz:c.id.size≤1048576):∃ o S',OutOK o∧DOK S'∧∀ w d f p0 p1,GOK w→DRep w d S f→w.cell? ⟨p0,0,none⟩=some (.pointer (some ⟨d,0,none⟩))→p0<w.heap.size→¬ f p0 →
  w.heap[p1]? = some (.cells #[.string c.id,.int .i64 0,.int .i64 c.every,.int .i64 c.cap,.int .i64 c.least] 106 (0,0))→¬ f p1 →
  Calls Tryz.prog 75 #[.pointer (some ⟨p0,0,none⟩),.pointer (some ⟨p1,0,none⟩)] w (Done o d S' f w):=by
 cases hS:S.town with
 | some T=>
  refine ⟨.err 5,S,⟨by decide,by decide⟩,ok,fun w d f p0 p1 g hD hc0 hl0 hf0 hc1 hf1=>?_⟩
  obtain ⟨t,ft,hcd,hdl,_⟩:=hD.town hS
  have HB:=Lib.hid (fun w'=>bad_ok 5 w')
  have HD:=Lib.hid hD
  clear hD hS g hc1
  go_enter Tryz.func75,Tryz.ntmps75
  go_wp2_with fail
  refine (HB.out _).mono ?_
  rintro e w1 ⟨rfl,hb1⟩
  exact ⟨rfl,Done.below HD.out rfl hb1⟩
 | none=>
  obtain ⟨e0,he0,hok,hnew⟩:=new_more S ok hS c hz
  refine ⟨if e0=0 then .txt okB else .err e0,if e0=0 then moreC S c else S,by split;exact okB_ok;exact ⟨by omega,by omega⟩,by split;(rename_i h;exact hok h);exact ok,fun w d f p0 p1 g hD hc0 hl0 hf0 hc1 hf1=>?_⟩
  obtain ⟨hcd,hdl⟩:=hD.none hS
  have HD:=Lib.hid hD
  obtain ⟨tp,nv,ft,h1,⟨h2,_⟩,h3,h4,h5,h6,h7⟩:=hD
  obtain ⟨A,cN,rfl,_,_,_⟩:=own_form h2
  have hn5:=ok.n
  obtain ⟨n,hn⟩:∃ n,S.n=n:=⟨_,rfl⟩
  rw [hn] at h2 h1 hnew hn5
  have hcn:w.cell? ⟨d,1,none⟩=some (.slice A n cN):=by simp [World.cell?,h1]
  have hrow:=moreC_row S c
  rw [show (moreC S c).n=n+1 by show S.n+1=_;rw [hn],hn] at hrow
  have HRow:=Lib.hid hrow
  have HO2:=Lib.hid h2
  have HNew:=Lib.hid hnew
  have pl:p1<w.heap.size:=(Array.getElem?_eq_some_iff.1 hc1).1
  have HC1:=Lib.hid hc1
  obtain ⟨q0,hq0⟩:∃ x,c.id=x:=⟨_,rfl⟩
  obtain ⟨q2,hq2⟩:∃ x,c.every=x:=⟨_,rfl⟩
  obtain ⟨q3,hq3⟩:∃ x,c.cap=x:=⟨_,rfl⟩
  obtain ⟨q4,hq4⟩:∃ x,c.least=x:=⟨_,rfl⟩
  have b0:w.cell? ⟨p1,0,none⟩=some (.string q0):=by rw [← hq0];simp [World.cell?,hc1]
  have b1:w.cell? ⟨p1,1,none⟩=some (.int .i64 0):=by simp [World.cell?,hc1]
  have b2:w.cell? ⟨p1,2,none⟩=some (.int .i64 q2):=by rw [← hq2];simp [World.cell?,hc1]
  have b3:w.cell? ⟨p1,3,none⟩=some (.int .i64 q3):=by rw [← hq3];simp [World.cell?,hc1]
  have b4:w.cell? ⟨p1,4,none⟩=some (.int .i64 q4):=by rw [← hq4];simp [World.cell?,hc1]
  have HQ:=Lib.hid (And.intro hq0 (And.intro hq2 (And.intro hq3 hq4)))
  have HKS:=Lib.hid (fun w' (h:Below w.heap.size w w')=>(⟨(h.cell (p:=⟨p0,0,none⟩) hl0).trans hc0,(h.cell (p:=⟨d,1,none⟩) hdl).trans hcn,(h.cell (p:=⟨p1,0,none⟩) pl).trans b0,(h.cell (p:=⟨p1,1,none⟩) pl).trans b1,(h.cell (p:=⟨p1,2,none⟩) pl).trans b2,(h.cell (p:=⟨p1,3,none⟩) pl).trans b3,(h.cell (p:=⟨p1,4,none⟩) pl).trans b4⟩ :
   (fun w':World=>w'.cell? ⟨p0,0,none⟩=some (.pointer (some ⟨d,0,none⟩))∧w'.cell? ⟨d,1,none⟩=some (.slice A n cN)∧w'.cell? ⟨p1,0,none⟩=some (.string q0)∧w'.cell? ⟨p1,1,none⟩=some (.int .i64 0)∧w'.cell? ⟨p1,2,none⟩=some (.int .i64 q2)∧w'.cell? ⟨p1,3,none⟩=some (.int .i64 q3)∧w'.cell? ⟨p1,4,none⟩=some (.int .i64 q4)) w'))
  obtain ⟨ic,hic,hi0,hi1,hi2⟩:=info_parts info_cfg
  have HM:=Lib.hid (fun w'=>must_ok w')
  have HMn:=Lib.hid (fun w' (h:e0≠0)=>must_no e0 w' h)
  obtain ⟨oo,hoo⟩:∃ oo,(if e0=0 then Out.txt okB else Out.err e0)=oo:=⟨_,rfl⟩
  obtain ⟨S',hS'⟩:∃ S',(if e0=0 then moreC S c else S)=S':=⟨_,rfl⟩
  rw [hoo,hS']
  have HOS:=Lib.hid (And.intro hoo hS')
  have HH1:=Lib.hid (And.intro h1 (And.intro h3 (And.intro h4 (And.intro h5 (And.intro h6 h7)))))
  clear hoo hS' hok hnew hrow h1 h2 h3 h4 h5 h6 h7 hc1 hq0 hq2 hq3 hq4 g hz
  go_enter Tryz.func75,Tryz.ntmps75
  go_upto_region 3 with fail
  go_cut [3] (fun v wc=>∃ A7 c7,v=.slice A7 (n+1) c7∧wc.ownsRow w.heap.size 106 5 (.slice A7 (n+1) c7) (n+1) (cfgV (moreC S c).C (n+1))∧Below w.heap.size w wc)
  case first=>
   have hbd:Below w.heap.size w w.drew:=(Below.refl _ _).drew
   have kk:=HKS.out _ hbd
   refine wp_region_M (fun w'=>w'.cell? ⟨p0,0,none⟩=some (.pointer (some ⟨d,0,none⟩))∧w'.cell? ⟨d,1,none⟩=some (.slice A n cN)∧w'.cell? ⟨p1,0,none⟩=some (.string q0)∧w'.cell? ⟨p1,1,none⟩=some (.int .i64 0)∧w'.cell? ⟨p1,2,none⟩=some (.int .i64 q2)∧w'.cell? ⟨p1,3,none⟩=some (.int .i64 q3)∧w'.cell? ⟨p1,4,none⟩=some (.int .i64 q4)) (fun _=>false) 9 rfl (by kernel_rfl) ?_
   (refine wpAnyM_tk (i:=0) (v:=?_) rfl (Or.inl ⟨by rfl,?_⟩) kk ?_;(rotate_left;(intro w hSw;(try dsimp only at hSw);go_simp;try with_reducible rfl));(try simp only [Act.put,List.setIfInBounds_toArray,List.set_cons_zero,List.set_cons_succ]))
   (refine wpAnyM_tk (i:=1) (v:=?_) rfl (Or.inl ⟨by rfl,?_⟩) kk ?_;(rotate_left;(intro w hSw;(try dsimp only at hSw);go_simp;try with_reducible rfl));(try simp only [Act.put,List.setIfInBounds_toArray,List.set_cons_zero,List.set_cons_succ]))
   (refine wpAnyM_tk (i:=2) (v:=?_) rfl (Or.inl ⟨by rfl,?_⟩) kk ?_;(rotate_left;(intro w hSw;(try dsimp only at hSw);go_simp;try with_reducible rfl));(try simp only [Act.put,List.setIfInBounds_toArray,List.set_cons_zero,List.set_cons_succ]))
   (refine wpAnyM_tk (i:=3) (v:=?_) rfl (Or.inl ⟨by rfl,?_⟩) kk ?_;(rotate_left;(intro w hSw;(try dsimp only at hSw);go_simp;try with_reducible rfl));(try simp only [Act.put,List.setIfInBounds_toArray,List.set_cons_zero,List.set_cons_succ]))
   (refine wpAnyM_tk (i:=5) (v:=?_) rfl (Or.inl ⟨by rfl,?_⟩) kk ?_;(rotate_left;(intro w hSw;(try dsimp only at hSw);go_simp;try with_reducible rfl));(try simp only [Act.put,List.setIfInBounds_toArray,List.set_cons_zero,List.set_cons_succ]))
   go_simp
   refine wpAnyM_two (i:=4) (j:=6) (by kernel_rfl) rfl rfl (fun K hK=>?_) (fun K hK=>?_)
   ·refine wp_append_row _ _ 35 rfl w.heap.size 10 106 ic (.agg #[.string ⟨#[]⟩,.int .i64 0,.int .i64 0,.int .i64 0,.int .i64 0]) 5 48 info_cfgs hic hi0 hi1 hi2 rfl (by decide) (.slice none 0 0) 0 [] rfl (World.ownsRow_nil _ _ _ _) A n cN _ rfl (own_below HO2.out hbd) (cfgV_one _ _) (by unfold maxLen;omega) (by omega) (Nat.le_refl _) ?_
    intro v4 w4 own4 gr4
    have hb4:Below w.heap.size w w4:=hbd.trans (grownN_below gr4)
    have z4:=hb4.size
    refine hK _ _ (fun _=>HKS.out _ hb4) ?_
    clear hK K
    refine wpAnyM_one (i:=6) (by kernel_rfl) rfl (fun K hK=>?_)
    go_simp
    have hb6:Below w.heap.size w (w4.alloc (.cells #[.string q0,.int .i64 0,.int .i64 q2,.int .i64 q3,.int .i64 q4] 106)):=hb4.alloc z4 _
    refine hK _ _ (fun _=>HKS.out _ hb6) ?_
    clear hK K
    refine wpAnyM_one (i:=7) (by kernel_rfl) rfl (fun K hK=>?_)
    refine wp_append_at _ _ 35 rfl w.heap.size 106 ic (.agg #[.string ⟨#[]⟩,.int .i64 0,.int .i64 0,.int .i64 0,.int .i64 0]) 5 48 info_cfgs hic hi0 hi1 hi2 rfl (by decide) v4 (0+n) _ rfl (own4.alloc _) ⟨w4.heap.size,0,none⟩ 1 1 (cfC c) rfl rfl ?_ (cfC_one c) (by unfold maxLen;omega) (by omega) (by simp;omega) ?_
    ·have:=new5_cells w4 c 106
     rw [HQ.out.1,HQ.out.2.1,HQ.out.2.2.1,HQ.out.2.2.2] at this
     exact this
    intro v9 w9 own9 gr9
    have hb9:Below w.heap.size w w9:=hb6.grown gr9 (by simp;omega) (fun k hk=>(own4.lt k hk).1)
    have k9:=HKS.out _ hb9
    refine hK _ _ (fun _=>k9) ?_
    clear hK K
    simp only [Nat.zero_add,List.nil_append] at own9
    obtain ⟨A9,c9,rfl,_,_,_⟩:=own_form own9
    (refine wpAnyM_tk (i:=8) (v:=?_) rfl (Or.inl ⟨by rfl,?_⟩) k9 ?_;(rotate_left;(intro w hSw;(try dsimp only at hSw);go_simp;try with_reducible rfl));(try simp only [Act.put,List.setIfInBounds_toArray,List.set_cons_zero,List.set_cons_succ]))
    go_simp
    refine wpAnyM_done (by kernel_rfl) ?_ _
    go_wp2_with fail
    go_meet
    case rel=>exact ⟨A9,c9,rfl,by rw [HRow.out];exact own9,hb9⟩
   ·go_simp
    have hb6:Below w.heap.size w (w.drew.alloc (.cells #[.string q0,.int .i64 0,.int .i64 q2,.int .i64 q3,.int .i64 q4] 106)):=hbd.alloc hbd.size _
    have hn6:∀ j u,(cfC c)[j]? = some u→(w.drew.alloc (.cells #[.string q0,.int .i64 0,.int .i64 q2,.int .i64 q3,.int .i64 q4] 106)).cell? ((⟨w.heap.size,0,none⟩:Addr).add j)=some u:=by
     have:=new5_cells w.drew c 106
     rw [HQ.out.1,HQ.out.2.1,HQ.out.2.2.1,HQ.out.2.2.2] at this
     exact this
    refine hK _ _ (fun _=>HKS.out _ hb6) ?_
    clear hK K
    refine wpAnyM_one (i:=4) (by kernel_rfl) rfl (fun K hK=>?_)
    refine wp_append_row _ _ 35 rfl w.heap.size 10 106 ic (.agg #[.string ⟨#[]⟩,.int .i64 0,.int .i64 0,.int .i64 0,.int .i64 0]) 5 48 info_cfgs hic hi0 hi1 hi2 rfl (by decide) (.slice none 0 0) 0 [] rfl (World.ownsRow_nil _ _ _ _) A n cN _ rfl (own_below HO2.out hb6) (cfgV_one _ _) (by unfold maxLen;omega) (by omega) (by simp) ?_
    intro v4 w4 own4 gr4
    have hs6:Below (w.drew.alloc (.cells #[.string q0,.int .i64 0,.int .i64 q2,.int .i64 q3,.int .i64 q4] 106)).heap.size (w.drew.alloc (.cells #[.string q0,.int .i64 0,.int .i64 q2,.int .i64 q3,.int .i64 q4] 106)) w4:=grownN_below gr4
    have hb4:Below w.heap.size w w4:=hb6.trans (hs6.mono (by simp))
    have z4:=hb4.size
    have hn4:∀ j u,(cfC c)[j]? = some u→w4.cell? ((⟨w.heap.size,0,none⟩:Addr).add j)=some u:=fun j u hj=>by
     have:=hn6 j u hj
     rw [Go.WideShapes.add_plain,Nat.zero_add] at this ⊢
     exact (hs6.cell (p:=⟨w.heap.size,j,none⟩) (by simp)).trans this
    refine hK _ _ (fun _=>HKS.out _ hb4) ?_
    clear hK K
    refine wpAnyM_one (i:=7) (by kernel_rfl) rfl (fun K hK=>?_)
    refine wp_append_at _ _ 35 rfl w.heap.size 106 ic (.agg #[.string ⟨#[]⟩,.int .i64 0,.int .i64 0,.int .i64 0,.int .i64 0]) 5 48 info_cfgs hic hi0 hi1 hi2 rfl (by decide) v4 (0+n) _ rfl own4 ⟨w.heap.size,0,none⟩ 1 1 (cfC c) rfl rfl hn4 (cfC_one c) (by unfold maxLen;omega) (by omega) z4 ?_
    intro v9 w9 own9 gr9
    have hb9:Below w.heap.size w w9:=hb4.grown gr9 z4 (fun k hk=>(own4.lt k hk).1)
    have k9:=HKS.out _ hb9
    refine hK _ _ (fun _=>k9) ?_
    clear hK K
    simp only [Nat.zero_add,List.nil_append] at own9
    obtain ⟨A9,c9,rfl,_,_,_⟩:=own_form own9
    (refine wpAnyM_tk (i:=8) (v:=?_) rfl (Or.inl ⟨by rfl,?_⟩) k9 ?_;(rotate_left;(intro w hSw;(try dsimp only at hSw);go_simp;try with_reducible rfl));(try simp only [Act.put,List.setIfInBounds_toArray,List.set_cons_zero,List.set_cons_succ]))
    go_simp
    refine wpAnyM_done (by kernel_rfl) ?_ _
    go_wp2_with fail
    go_meet
    case rel=>exact ⟨A9,c9,rfl,by rw [HRow.out];exact own9,hb9⟩
  case rest=>
   obtain ⟨A7,c7,rfl,own7,bel⟩:=hcut
   have z7:=bel.size
   go_wp2_with fail
   refine (HNew.out wc _ A7 c7 own7).mono ?_
   rintro e w10 ⟨tv,rfl,hb10⟩
   have hbw:Below w.heap.size w w10:=bel.trans (hb10.mono z7)
   have O10:=own_below own7 hb10
   by_cases h0:e0=0
   ·subst h0
    clear own7 bel hb10
    have HBW:=Lib.hid hbw
    have HO10:=Lib.hid O10
    have y0:=(hbw.cell (p:=⟨p0,0,none⟩) hl0).trans hc0
    have y1:=(hbw.cell (p:=⟨d,1,none⟩) hdl).trans hcn
    have yf:∀ o,w10.frozen? ⟨d,o,none⟩=false:=fun o=>by
     rw [hbw.frozen (p:=⟨d,o,none⟩) hdl]
     have:=HH1.out.1
     simp [World.frozen?,this]
    have z10:=hbw.size
    clear hbw O10
    have hoo:=HOS.out
    rw [if_pos rfl,if_pos rfl] at hoo
    obtain ⟨rfl,rfl⟩:=hoo
    go_wp2_with fail
    refine (HM.out _).mono ?_
    rintro e w11 ⟨rfl,hb11⟩
    have y0':=(hb11.cell (p:=⟨p0,0,none⟩) (show p0<w10.heap.size by omega)).trans y0
    have y1':=(hb11.cell (p:=⟨d,1,none⟩) (show d<w10.heap.size by omega)).trans y1
    have yf':∀ o,w11.frozen? ⟨d,o,none⟩=false:=fun o=>(hb11.frozen (p:=⟨d,o,none⟩) (show d<w10.heap.size by omega)).trans (yf o)
    have HB11:=Lib.hid hb11
    have z11:=hb11.size
    clear y0 y1 yf hb11
    go_wp2_with fail
    refine bodyPost_ret (v:=.string ⟨#[111,107]⟩) (by simp [results,Tryz.results75,go_sem]) rfl ?_
    obtain ⟨g1,g3,g4,g5,g6,g7⟩:=HH1.out
    have tp0:tp=none:=by
     unfold TPart at g3
     rw [hS] at g3
     exact g3.1
    subst tp0
    have hb12:Below w.heap.size w w11:=HBW.out.trans (HB11.out.mono z10)
    have e11:w11.heap[d]? = some (.cells #[.pointer none,.slice A n cN] 37 (0,0)):=(hb12.block d hdl).trans g1
    have O11:=own_below HO10.out HB11.out
    have hlow:=(g7 d g4)
    have hob:∀ x,(Value.slice A7 (n+1) c7).ownBlock=some x→w.heap.size≤x∧x<w11.heap.size:=fun x hx=>O11.lt x hx
    refine ⟨rfl,fun x=>f x∨(Value.slice A7 (n+1) c7).ownBlock=some x,⟨none,.slice A7 (n+1) c7,fun _=>False,?_,⟨?_,fun h=>?_⟩,?_,.inl g4,fun g hg=>⟨.inr hg,?_⟩,fun x hx=>hx.elim,fun x hx=>?_⟩,fun x hx=>?_,?_⟩
    ·simp [World.setCell,Array.getElem?_modify,e11]
    ·rw [show (moreC S c).n=n+1 by show S.n+1=_;rw [hn]]
     exact own_elsewhere (own_mono O11 (show 10≤w.heap.size by omega)) (fun e=>by have:=(hob d e).1;omega) _ _
    ·exact absurd (show S.n+1=0 from h) (by omega)
    ·show TPart _ _ S.town _
     unfold TPart
     rw [hS]
     exact ⟨rfl,fun _ h=>h⟩
    ·have:=(hob g hg).1;omega
    ·rcases hx with hx | hx
     ·exact ⟨(g7 x hx).1,by have:=(g7 x hx).2;have:=hb12.size;simp;omega⟩
     ·have:=hob x hx;exact ⟨by omega,by simp;omega⟩
    ·rcases hx with hx | hx
     ·exact .inl hx
     ·exact .inr (hob x hx).1
    ·exact (Kept.of_below hb12).set g4 _ _
   ·have hoo:=HOS.out
    rw [if_neg h0,if_neg h0] at hoo
    obtain ⟨rfl,rfl⟩:=hoo
    have hd0:(e0 != 0)=true:=by simpa using h0
    go_wp2_with fail
    refine (HMn.out _ h0).mono ?_
    rintro e w11 ⟨rfl,hb11⟩
    exact ⟨rfl,Done.below HD.out rfl (hbw.trans (hb11.mono hbw.size))⟩
end Go.Proofs.YtnaebigoknfndaaGreatDoor
namespace Go.Proofs.YtnaebigoknfndaaGreatDoor
open Go Go.RowKit Go.Maps
def startT (S:DSt):TSt:=stN S.C S.n S.n 0
theorem startT_ok {S:DSt} (ok:DOK S):TownOK (startT S):=by
 refine ⟨ok.n,fun j hj=>?_,fun j hj=>?_,by show ([]:List ByteArray).length≤1000;simp,fun x hx=>by cases hx⟩
 ·have hj:j<S.n:=hj
  unfold startT
  rw [stN_nd S.C hj]
  exact wpS_tn ok.n ok.C ok.ne hj
 ·have hj:j<S.n:=hj
  unfold startT
  rw [stN_nd S.C hj]
  intro u hu
  cases hu
theorem new_start (S:DSt) (ok:DOK S) (w:World) (base:Nat) (A:Option Addr) (cl:Nat) (own:w.ownsRow base 106 5 (.slice A S.n cl) S.n (cfgV S.C S.n)) (h0:S.n=0→Value.slice A S.n cl=.slice none 0 0) :
  Calls Tryz.prog 76 #[.slice A S.n cl] w fun e w'=>∃ t ft,e=.returned (.tuple #[.pointer (some ⟨t,0,none⟩),.int .i64 0])∧TAny w' t (startT S) ft∧(∀ x,ft x→w.heap.size≤x)∧Below w.heap.size w w':=by
 by_cases hn:S.n=0
 ·rw [h0 hn]
  refine (tnew_nil w).mono ?_
  rintro e w' ⟨t,rfl,h1,h2,h3⟩
  exact ⟨t,fun x=>x=t,rfl,.inr ⟨hn,rfl,h1,rfl,fun x hx=>by subst hx;exact h1.lt⟩,fun x hx=>by subst hx;exact h2,h3⟩
 ·have h5:=ok.n
  refine (tnew_ok S.n cl base A S.C w own ⟨by omega,h5⟩ ok.C ok.ne).mono ?_
  rintro e w' ⟨t,f,rfl,h1,h2,h3⟩
  exact ⟨t,f,rfl,.inl ⟨by show 1≤S.n;omega,h1⟩,h2,h3⟩
theorem cstart_ex (S:DSt) (ok:DOK S):∃ o S',OutOK o∧DOK S'∧∀ w d f p0,GOK w→DRep w d S f→w.cell? ⟨p0,0,none⟩=some (.pointer (some ⟨d,0,none⟩))→p0<w.heap.size→¬ f p0 →
  Calls Tryz.prog 77 #[.pointer (some ⟨p0,0,none⟩)] w (Done o d S' f w):=by
 cases hS:S.town with
 | some T=>
  refine ⟨.err 5,S,⟨by decide,by decide⟩,ok,fun w d f p0 g hD hc0 hl0 hf0=>?_⟩
  obtain ⟨t,ft,hcd,hdl,_⟩:=hD.town hS
  have HB:=Lib.hid (fun w'=>bad_ok 5 w')
  have HD:=Lib.hid hD
  clear hD hS g
  go_enter Tryz.func77,Tryz.ntmps77
  go_wp2_with fail
  refine (HB.out _).mono ?_
  rintro e w1 ⟨rfl,hb1⟩
  exact ⟨rfl,Done.below HD.out rfl hb1⟩
 | none=>
  refine ⟨.txt okB,{ S with town:=some (startT S) },okB_ok,⟨ok.n,ok.C,ok.ne,fun T hT=>by cases hT;exact startT_ok ok⟩,fun w d f p0 g hD hc0 hl0 hf0=>?_⟩
  obtain ⟨hcd,hdl⟩:=hD.none hS
  obtain ⟨tp,nv,ft,h1,⟨h2,h2'⟩,h3,h4,h5,h6,h7⟩:=hD
  obtain ⟨A,cN,rfl,_,_,_⟩:=own_form h2
  have HNew:=Lib.hid (new_start S ok w 10 A cN h2 h2')
  have HH1:=Lib.hid (And.intro h1 (And.intro h2 (And.intro h2' (And.intro h3 (And.intro h4 (And.intro h5 (And.intro h6 h7)))))))
  obtain ⟨n,hn⟩:∃ n,S.n=n:=⟨_,rfl⟩
  rw [hn] at h1 HNew
  have hcn:w.cell? ⟨d,1,none⟩=some (.slice A n cN):=by simp [World.cell?,h1]
  have hfz:∀ o,w.frozen? ⟨d,o,none⟩=false:=fun o=>by simp [World.frozen?,h1]
  have HM:=Lib.hid (fun w'=>must_ok w')
  clear h1 h2 h2' h3 h4 h5 h6 h7 g
  go_enter Tryz.func77,Tryz.ntmps77
  go_wp2_with fail
  refine HNew.out.mono ?_
  rintro e w1 ⟨t,ft',rfl,hT1,hft1,hb1⟩
  have HT1:=Lib.hid hT1
  have HB1:=Lib.hid hb1
  have z1:=hb1.size
  clear hT1 hb1
  go_wp2_with fail
  refine (HM.out _).mono ?_
  rintro e w2 ⟨rfl,hb2⟩
  have hbw:Below w.heap.size w w2:=HB1.out.trans (hb2.mono z1)
  have HB2:=Lib.hid hb2
  have HBW:=Lib.hid hbw
  have y0:=(hbw.cell (p:=⟨p0,0,none⟩) hl0).trans hc0
  have y1:=(hbw.cell (p:=⟨d,0,none⟩) hdl).trans hcd
  have yf:∀ o,w2.frozen? ⟨d,o,none⟩=false:=fun o=>(hbw.frozen (p:=⟨d,o,none⟩) hdl).trans (hfz o)
  have z2:=hbw.size
  clear hbw hb2
  go_wp2_with fail
  refine bodyPost_ret (v:=.string ⟨#[111,107]⟩) (by simp [results,Tryz.results77,go_sem]) rfl ?_
  obtain ⟨g1,g2,g2',g3,g4,g5,g6,g7⟩:=HH1.out
  have e2:w2.heap[d]? = some (.cells #[.pointer tp,.slice A S.n cN] 37 (0,0)):=(HBW.out.block d hdl).trans g1
  have T2:=HT1.out.below HB2.out
  have hdt:¬ ft' d:=fun e=>by have:=hft1 d e;omega
  refine ⟨rfl,fun x=>f x∨ft' x,⟨some ⟨t,0,none⟩,.slice A S.n cN,ft',?_,⟨?_,g2'⟩,⟨t,rfl,?_⟩,.inl g4,fun g hg=>⟨.inl (g5 g hg).1,(g5 g hg).2⟩,fun x hx=>⟨.inr hx,?_,?_⟩,fun x hx=>?_⟩,fun x hx=>?_,?_⟩
  ·simp [World.setCell,Array.getElem?_modify,e2]
  ·exact own_elsewhere (own_below g2 HBW.out) (fun e=>(g5 d e).2 rfl) _ _
  ·exact T2.same ⟨by simp [World.setCell],fun x hx hfx=>Below.heap_setCell _ _ _ _ (fun e=>hdt (by have e:x=d:=e;rw [← e];exact hfx))⟩
  ·have:=hft1 x hx;have:=(g7 d g4).2;omega
  ·intro e
   have:=hft1 x hx;have:=(g7 x (g5 x e).1).2;omega
  ·rcases hx with hx | hx
   ·exact ⟨(g7 x hx).1,by have:=(g7 x hx).2;simp;omega⟩
   ·have:=hft1 x hx;have:=(g7 d g4);have:=T2.lt x hx;exact ⟨by omega,by simp;omega⟩
  ·rcases hx with hx | hx
   ·exact .inl hx
   ·exact .inr (hft1 x hx)
  ·exact (Kept.of_below HBW.out).set g4 _ _
theorem way_all {T:TSt} (h:TownOK T) (w:World) {t:Nat} {f:Nat→Prop} (hT:TAny w t T f) :
  Calls Tryz.prog 80 #[.pointer (some ⟨t,0,none⟩)] w fun e w'=>∃ A' c',e=.returned (.slice A' T.way.length c')∧Below w.heap.size w w':=by
 rcases hT with ⟨_,hT⟩ | ⟨h1,h2,h3,_⟩
 ·refine (tway_ok w hT (by have:=h.len;omega)).mono ?_
  rintro e w' ⟨A',c',rfl,_,hb⟩
  exact ⟨A',c',rfl,hb⟩
 ·rw [h2]
  exact tway_nil w h3
theorem cway_ex (S:DSt) (ok:DOK S):∃ o S',OutOK o∧DOK S'∧∀ w d f p0,GOK w→DRep w d S f→w.cell? ⟨p0,0,none⟩=some (.pointer (some ⟨d,0,none⟩))→p0<w.heap.size→¬ f p0 →
  Calls Tryz.prog 78 #[.pointer (some ⟨p0,0,none⟩)] w (Done o d S' f w):=by
 cases hS:S.town with
 | none=>
  refine ⟨.err 4,S,⟨by decide,by decide⟩,ok,fun w d f p0 g hD hc0 hl0 hf0=>?_⟩
  obtain ⟨hcd,hdl⟩:=hD.none hS
  have HTh:=Lib.hid (there_no hcd hdl)
  have HD:=Lib.hid hD
  clear hD hcd hS g
  go_enter Tryz.func78,Tryz.ntmps78
  go_wp2_with fail
  refine HTh.out.mono ?_
  rintro e w1 ⟨rfl,hb1⟩
  exact ⟨rfl,Done.below HD.out rfl hb1⟩
 | some T=>
  have okT:=ok.town T hS
  have hl:=okT.len
  refine ⟨.txt (toldT [(T.way.length:Int)]),S,⟨toldT_okT _,Nat.le_trans (toldT_size [(T.way.length:Int)] (fun y hy=>by rw [List.mem_singleton.1 hy];omega)) (by simp)⟩,ok,fun w d f p0 g hD hc0 hl0 hf0=>?_⟩
  obtain ⟨t,ft,hcd,hdl,hTA,_,_⟩:=hD.town hS
  have HTh:=Lib.hid (there_ok hcd hdl)
  have HW:=Lib.hid (fun w' (h:Below w.heap.size w w')=>way_all okT w' (hTA.below h))
  have HD:=Lib.hid hD
  obtain ⟨m,hm⟩:∃ m,T.way.length=m:=⟨_,rfl⟩
  rw [hm] at HW hl ⊢
  have HT:=Lib.hid (fun w' A c (h:Below w.heap.size w w') (hr:Row w' A 1 [(m:Int)])=>told_num A 1 c [(m:Int)] w' (g.below h g.low) hr (by omega) (fun y hy=>by rw [List.mem_singleton.1 hy];omega))
  clear hD hS g hTA okT
  go_enter Tryz.func78,Tryz.ntmps78
  go_wp2_with fail
  refine HTh.out.mono ?_
  rintro e w1 ⟨rfl,hb1⟩
  have y0:=(hb1.cell (p:=⟨p0,0,none⟩) hl0).trans hc0
  have y1:=(hb1.cell (p:=⟨d,0,none⟩) hdl).trans hcd
  have z1:=hb1.size
  go_wp2_with fail
  refine (HW.out _ hb1).mono ?_
  rintro e w2 ⟨A',c',rfl,hb2⟩
  have hbw2:Below w.heap.size w w2:=hb1.trans (hb2.mono z1)
  have hba:Below w.heap.size w (w2.alloc (.cells #[.int .i64 (m:Int)] 3)):=hbw2.alloc hbw2.size _
  go_wp2_with fail
  refine (HT.out _ _ _ hba (Row.lit w2 3 [(m:Int)] 1 rfl)).mono ?_
  rintro e w3 ⟨rfl,hb3⟩
  go_wp2_with fail
  refine bodyPost_ret (v:=.string (toldT [(m:Int)])) (by simp [results,Tryz.results78,go_sem]) rfl ?_
  exact Done.below HD.out rfl (hba.trans (hb3.mono hba.size))
end Go.Proofs.YtnaebigoknfndaaGreatDoor
namespace Go.Proofs.YtnaebigoknfndaaGreatDoor
open Go.RowKit
end Go.Proofs.YtnaebigoknfndaaGreatDoor
namespace Go.Proofs.YtnaebigoknfndaaGreatDoor
open Go.RowKit
def Asks (z L th t:Int) (A:Option Addr) (n c:Nat) (l:List Int):Prop:=
 ∀ T:Int,0≤T→T≤1073741824→∃ k:Int,(th≤k↔t≤T)∧∀ w',Row w' A n l→Calls Tryz.prog 71 #[.agg #[.int .i64 z,.slice A n c],.int .i64 L,.int .i64 T] w' fun e w''=>e=.returned (.tuple #[.int .i64 k,.int .i64 0])∧Below w'.heap.size w' w''
theorem when_large (z L th t:Int) (A:Option Addr) (n c:Nat) (l:List Int) (w:World) (hr:Row w A n l) (hz:1≤z∧z≤64) (hn:(n:Int)≤z) (h0:0<n) (hb:Btw 0 16777216 l) (hL:1≤L∧L≤16777216) (hth:1≤th∧th≤60)
  (ha:Asks z L th t A n c l) (ht:1073741824<t) :
  Calls Tryz.prog 74 #[.agg #[.int .i64 z,.slice A n c],.int .i64 L,.int .i64 th] w fun e w'=>e=.returned (.tuple #[.int .i64 0,.int .i64 2])∧Below w.heap.size w w':=by
 have hlook:∀ w',Row w' A n l→_:=fun w' h=>look_ok z L A n c l w' h hz hn h0 hb hL
 obtain ⟨k,hk,hof⟩:=ha 1073741824 (by omega) (Int.le_refl _)
 have hkt:k<th:=by
  rcases Int.lt_or_le k th with q | q
  ·exact q
  ·have:=hk.1 q;omega
 have HLook:=Lib.hid hlook
 have HOf:=Lib.hid hof
 have HR:=Lib.hid hr
 obtain ⟨t1,t2⟩:=hth
 have hkd:decide (k<th)=true:=by simpa using hkt
 have qa:=alloc_cells
 have qf:=alloc_frozens
 clear hlook hof hr hb ha hk
 go_enter Tryz.func74,Tryz.ntmps74
 go_wp2_with fail
 refine (HLook.out _ (HR.out.below (by repeat (first | (with_reducible exact Below.refl _ _) | (with_reducible refine bAl ?_ _) | (with_reducible refine bSc ?_ _) | (with_reducible refine Below.drew ?_) | (refine Below.trans ?_ (by assumption)))))).mono ?_
 rintro e w1 ⟨rfl,hb1⟩
 have z1:=hb1.size
 have c1:=Below.cells hb1
 have f1:=Below.frozens hb1
 try simp only [World.size_alloc,World.size_setCell,World.size_drew] at z1 c1 f1
 go_wp2_with fail
 refine (HOf.out _ (HR.out.below (by repeat (first | (with_reducible exact Below.refl _ _) | (with_reducible refine bAl ?_ _) | (with_reducible refine bSc ?_ _) | (with_reducible refine Below.drew ?_) | (with_reducible refine bTm ?_ hb1))))).mono ?_
 rintro e w2 ⟨rfl,hb2⟩
 have z2:=hb2.size
 have c2:=Below.cells hb2
 have f2:=Below.frozens hb2
 try simp only [World.size_alloc,World.size_setCell,World.size_drew] at z2 c2 f2
 go_wp2_with fail
 go_ret2
 exact ⟨rfl,(by repeat (first | (with_reducible exact Below.refl _ _) | (with_reducible refine bAl ?_ _) | (with_reducible refine bSc ?_ _) | (with_reducible refine Below.drew ?_) | (with_reducible refine bTm ?_ hb2) | (with_reducible refine bTm ?_ hb1)))⟩
theorem when_ok (z L th t:Int) (A:Option Addr) (n c:Nat) (l:List Int) (w:World) (hr:Row w A n l) (hz:1≤z∧z≤64) (hn:(n:Int)≤z) (h0:0<n) (hb:Btw 0 16777216 l) (hL:1≤L∧L≤16777216) (hth:1≤th∧th≤60)
  (ha:Asks z L th t A n c l) (ht:0≤t∧t≤1073741824) :
  Calls Tryz.prog 74 #[.agg #[.int .i64 z,.slice A n c],.int .i64 L,.int .i64 th] w fun e w'=>e=.returned (.tuple #[.int .i64 t,.int .i64 0])∧Below w.heap.size w w':=by
 have hlook:∀ w',Row w' A n l→_:=fun w' h=>look_ok z L A n c l w' h hz hn h0 hb hL
 obtain ⟨k,hk,hof⟩:=ha 1073741824 (by omega) (Int.le_refl _)
 have hkt:th≤k:=hk.2 ht.2
 have HLook:=Lib.hid hlook
 have HOf:=Lib.hid hof
 have HR:=Lib.hid hr
 have HA:=Lib.hid ha
 obtain ⟨t1,t2⟩:=hth
 obtain ⟨ta,tb⟩:=ht
 have hkd:decide (k<th)=false:=by simpa using hkt
 have qa:=alloc_cells
 have qf:=alloc_frozens
 clear hlook hof hr hb ha hk
 go_enter Tryz.func74,Tryz.ntmps74
 go_wp2_with fail
 refine (HLook.out _ (HR.out.below (by repeat (first | (with_reducible exact Below.refl _ _) | (with_reducible refine bAl ?_ _) | (with_reducible refine bSc ?_ _) | (with_reducible refine Below.drew ?_) | (refine Below.trans ?_ (by assumption)))))).mono ?_
 rintro e w1 ⟨rfl,hb1⟩
 have z1:=hb1.size
 have c1:=Below.cells hb1
 have f1:=Below.frozens hb1
 try simp only [World.size_alloc,World.size_setCell,World.size_drew] at z1 c1 f1
 go_wp2_with fail
 refine (HOf.out _ (HR.out.below (by repeat (first | (with_reducible exact Below.refl _ _) | (with_reducible refine bAl ?_ _) | (with_reducible refine bSc ?_ _) | (with_reducible refine Below.drew ?_) | (with_reducible refine bTm ?_ hb1))))).mono ?_
 rintro e w2 ⟨rfl,hb2⟩
 have z2:=hb2.size
 have c2:=Below.cells hb2
 have f2:=Below.frozens hb2
 try simp only [World.size_alloc,World.size_setCell,World.size_drew] at z2 c2 f2
 go_wp2_with fail
 go_loopw [9,10] (fun p q wr=>∃ x y:Int,p=.int .i64 x∧q=.int .i64 y ∧ -1≤x∧x<t∧t≤y∧y≤1073741824∧wr.cell? ⟨w.heap.size,0,none⟩=some (.int .i64 z)∧wr.cell? ⟨w.heap.size,1,none⟩=some (.slice A n c)∧w.heap.size+1≤wr.heap.size∧Below w.heap.size w wr)
  (fun p q _=>(intOf q - intOf p).toNat)
 case atStart=>exact ⟨-1,1073741824,rfl,rfl,by omega,by omega,tb,Int.le_refl _,by simp [go_sem,↓IntWalk.iteOmega, *],by simp [go_sem,↓IntWalk.iteOmega, *],by omega,(by repeat (first | (with_reducible exact Below.refl _ _) | (with_reducible refine bAl ?_ _) | (with_reducible refine bSc ?_ _) | (with_reducible refine Below.drew ?_) | (with_reducible refine bTm ?_ hb2) | (with_reducible refine bTm ?_ hb1)))⟩
 case round=>
  obtain ⟨x,y,rfl,rfl,x0,xt,ty,y1,k0,k1,sz,bel⟩:=hrel
  clear c1 f1 z1 hb1 c2 f2 z2 hb2
  by_cases hlt:1<y - x
  ·obtain ⟨m,hm⟩:∃ m,(x+y) / 2=m:=⟨_,rfl⟩
   have mb:x<m∧m<y∧0≤m:=by omega
   obtain ⟨j,hj,hofj⟩:=HA.out m (by omega) (by omega)
   have HOj:=Lib.hid hofj
   by_cases hc:th≤j
   ·have tm:=hj.1 hc
    clear hj hofj
    go_wp2_with fail
    refine (HOj.out _ (HR.out.below (by repeat (first | (with_reducible exact Below.refl _ _) | (with_reducible refine bAl ?_ _) | (with_reducible refine bSc ?_ _) | (with_reducible refine Below.drew ?_) | (with_reducible exact bel))))).mono ?_
    rintro e w3 ⟨rfl,hb3⟩
    have z3:=hb3.size
    have c3:=Below.cells hb3
    have f3:=Below.frozens hb3
    try simp only [World.size_alloc,World.size_setCell,World.size_drew] at z3 c3 f3
    go_wp2_with fail
    go_roundw
    case rel=>exact ⟨x,m,rfl,rfl,x0,xt,tm,by omega,by simp [go_sem,↓IntWalk.iteOmega, *],by simp [go_sem,↓IntWalk.iteOmega, *],by omega,(by repeat (first | (with_reducible exact Below.refl _ _) | (with_reducible refine bAl ?_ _) | (with_reducible refine bSc ?_ _) | (with_reducible refine Below.drew ?_) | (with_reducible refine bTm ?_ hb3) | (with_reducible exact bel)))⟩
    case measure=>simp [intOf];omega
   ·have tm:m<t:=by
     rcases Int.lt_or_le m t with q | q
     ·exact q
     ·exact absurd (hj.2 q) hc
    clear hj hofj
    go_wp2_with fail
    refine (HOj.out _ (HR.out.below (by repeat (first | (with_reducible exact Below.refl _ _) | (with_reducible refine bAl ?_ _) | (with_reducible refine bSc ?_ _) | (with_reducible refine Below.drew ?_) | (with_reducible exact bel))))).mono ?_
    rintro e w3 ⟨rfl,hb3⟩
    have z3:=hb3.size
    have c3:=Below.cells hb3
    have f3:=Below.frozens hb3
    try simp only [World.size_alloc,World.size_setCell,World.size_drew] at z3 c3 f3
    go_wp2_with fail
    go_roundw
    case rel=>exact ⟨m,y,rfl,rfl,by omega,tm,ty,y1,by simp [go_sem,↓IntWalk.iteOmega, *],by simp [go_sem,↓IntWalk.iteOmega, *],by omega,(by repeat (first | (with_reducible exact Below.refl _ _) | (with_reducible refine bAl ?_ _) | (with_reducible refine bSc ?_ _) | (with_reducible refine Below.drew ?_) | (with_reducible refine bTm ?_ hb3) | (with_reducible exact bel)))⟩
    case measure=>simp [intOf];omega
  ·obtain rfl:y=t:=by omega
   go_wp2_with fail
   go_ret2
   exact ⟨rfl,(by repeat (first | (with_reducible exact Below.refl _ _) | (with_reducible refine bAl ?_ _) | (with_reducible refine bSc ?_ _) | (with_reducible refine Below.drew ?_) | (with_reducible exact bel)))⟩
end Go.Proofs.YtnaebigoknfndaaGreatDoor
namespace Go.Proofs.YtnaebigoknfndaaGreatDoor
open Go Go.RowKit
theorem wcheck_le (A:Option Addr) (n c:Nat) (l:List Int) (w:World) (h:Row w A n l) (hm:n≤9223372036854775807) (h0:LE l≠0) :
  Calls Tryz.prog 146 #[.agg #[.int .i64 (max 1 (n:Int)),.slice A n c]] w fun e w'=>e=.returned (.int .i64 1)∧Below w.heap.size w w':=by
 have hl:=h.1
 have qa:=alloc_cells
 have qf:=alloc_frozens
 obtain ⟨z,hz⟩:∃ z,max 1 (n:Int)=z:=⟨_,rfl⟩
 rw [hz]
 by_cases h1:64<n
 ·have z1:¬ z<1:=by omega
  have z2:64<z:=by omega
  clear h h0 hz
  go_enter Tryz.func146,Tryz.ntmps146
  go_wp2_with fail
  refine bodyPost_ret (v:=.int .i64 1) (by simp [results,Tryz.results146,go_sem]) rfl ?_
  exact ⟨rfl,(by repeat (first | (with_reducible exact Below.refl _ _) | (with_reducible refine bAl ?_ _) | (with_reducible refine bSc ?_ _) | (with_reducible refine Below.drew ?_) | (refine Below.trans ?_ (by assumption))))⟩
 ·have z1:¬ z<1:=by omega
  have z2:¬ 64<z:=by omega
  have z3:¬ z<(n:Int):=by omega
  have h2:¬ Btw 0 16777216 l:=fun hb=>h0 (by unfold LE;rw [if_neg (by omega),if_pos hb])
  have HL:=Lib.hid (fun w' (h:Row w' A n l)=>list_bad A n c l w' h (by omega) h2)
  have HR:=Lib.hid h
  clear h h0 hz h2
  go_enter Tryz.func146,Tryz.ntmps146
  have hb0:Below w.heap.size w (w.alloc (.cells #[.int .i64 z,.slice A n c] 103)):=(Below.refl _ _).alloc (Nat.le_refl _) _
  have hR0:=HR.out.below hb0
  go_wp2_with fail
  refine (HL.out _ hR0).mono ?_
  rintro e w1 ⟨rfl,rfl⟩
  go_wp2_with fail
  refine bodyPost_ret (v:=.int .i64 1) (by simp [results,Tryz.results146,go_sem]) rfl ?_
  exact ⟨rfl,hb0⟩
noncomputable def lookE (l:List Int) (a:Int):Int:=if LE l≠0 then 1 else if a<1∨16777216<a then 1 else if l.length=0 then 4 else 0
theorem look_any (A:Option Addr) (n c:Nat) (l:List Int) (a:Int) (w:World) (h:Row w A n l) (hm:n≤9223372036854775807) :
  Calls Tryz.prog 115 #[.agg #[.int .i64 (max 1 (n:Int)),.slice A n c],.int .i64 a] w fun e w'=>e=.returned (.int .i64 (lookE l a))∧Below w.heap.size w w':=by
 have hl:=h.1
 have qa:=alloc_cells
 have qf:=alloc_frozens
 have HR:=Lib.hid h
 have hb0:Below w.heap.size w (w.alloc (.cells #[.int .i64 (max 1 (n:Int)),.slice A n c] 103)):=(Below.refl _ _).alloc (Nat.le_refl _) _
 by_cases h0:LE l=0
 ·obtain ⟨h64,hb⟩:=LE_ok h0
  have HC:=Lib.hid (fun w' (h:Row w' A n l)=>wcheck_ok (max 1 (n:Int)) A n c l w' h ⟨by omega,by omega⟩ (by omega) hb)
  have e1:lookE l a=if a<1∨16777216<a then 1 else if l.length=0 then 4 else 0:=by unfold lookE;rw [if_neg (by simp [h0])]
  rw [hl] at e1
  rw [e1]
  obtain ⟨z,hz⟩:∃ z,max 1 (n:Int)=z:=⟨_,rfl⟩
  rw [hz] at HC hb0 ⊢
  have HB0:=Lib.hid hb0
  have hR0:=HR.out.below hb0
  clear h h0 hz hb e1 h64 hb0 hl
  by_cases hg:a<1∨(¬ a<1∧16777216<a)
  ·rw [if_pos (by omega)]
   rcases hg with g1 | ⟨g1,g2⟩
   all_goals
    go_enter Tryz.func115,Tryz.ntmps115
    go_wp2_with fail
    refine (HC.out _ hR0).mono ?_
    rintro e w1 ⟨rfl,hb1⟩
    have hbw:Below w.heap.size w w1:=HB0.out.trans (hb1.mono (by simp))
    go_wp2_with fail
    refine bodyPost_ret (v:=.int .i64 1) (by simp [results,Tryz.results115,go_sem]) rfl ?_
    exact ⟨rfl,hbw⟩
  ·rw [if_neg (by omega)]
   have g1:¬ a<1:=by omega
   have g2:¬ 16777216<a:=by omega
   clear hg
   by_cases hn:n=0
   ·rw [if_pos hn]
    subst hn
    go_enter Tryz.func115,Tryz.ntmps115
    go_wp2_with fail
    refine (HC.out _ hR0).mono ?_
    rintro e w1 ⟨rfl,hb1⟩
    have hbw:Below w.heap.size w w1:=HB0.out.trans (hb1.mono (by simp))
    have c1:=Below.cells hb1
    simp only [World.size_alloc] at c1
    go_wp2_with fail
    refine bodyPost_ret (v:=.int .i64 4) (by simp [results,Tryz.results115,go_sem]) rfl ?_
    exact ⟨rfl,hbw⟩
   ·rw [if_neg hn]
    have hn':((n:Int)==0)=false:=by simp;omega
    go_enter Tryz.func115,Tryz.ntmps115
    go_wp2_with fail
    refine (HC.out _ hR0).mono ?_
    rintro e w1 ⟨rfl,hb1⟩
    have hbw:Below w.heap.size w w1:=HB0.out.trans (hb1.mono (by simp))
    have c1:=Below.cells hb1
    simp only [World.size_alloc] at c1
    go_wp2_with fail
    refine bodyPost_ret (v:=.int .i64 0) (by simp [results,Tryz.results115,go_sem]) rfl ?_
    exact ⟨rfl,hbw⟩
 ·have HC:=Lib.hid (fun w' (h:Row w' A n l)=>wcheck_le A n c l w' h hm h0)
  have e1:lookE l a=1:=by unfold lookE;rw [if_pos h0]
  rw [e1]
  obtain ⟨z,hz⟩:∃ z,max 1 (n:Int)=z:=⟨_,rfl⟩
  rw [hz] at HC hb0 ⊢
  have HB0:=Lib.hid hb0
  have hR0:=HR.out.below hb0
  clear h h0 hz e1 hb0 hl
  go_enter Tryz.func115,Tryz.ntmps115
  go_wp2_with fail
  refine (HC.out _ hR0).mono ?_
  rintro e w1 ⟨rfl,hb1⟩
  have hbw:Below w.heap.size w w1:=HB0.out.trans (hb1.mono (by simp))
  go_wp2_with fail
  refine bodyPost_ret (v:=.int .i64 1) (by simp [results,Tryz.results115,go_sem]) rfl ?_
  exact ⟨rfl,hbw⟩
end Go.Proofs.YtnaebigoknfndaaGreatDoor
namespace Go.Proofs.YtnaebigoknfndaaGreatDoor
open Go Go.RowKit
def ValC0 (f:FuncId) (l:List Int):Prop:=∃ o,OutOK o∧∀ w p A c,GOK w→InRow w A l.length c l→w.cell? ⟨p,0,none⟩=some (.slice A l.length c)→p<w.heap.size →
 Calls Tryz.prog f #[.pointer (some ⟨p,0,none⟩)] w fun e w'=>e=o.e∧Below w.heap.size w w'
def ValC1 (f:FuncId) (l:List Int) (a:Int):Prop:=∃ o,OutOK o∧∀ w p p1 A c,GOK w→InRow w A l.length c l→w.cell? ⟨p,0,none⟩=some (.slice A l.length c)→p<w.heap.size→w.cell? ⟨p1,0,none⟩=some (.int .i64 a)→p1<w.heap.size →
 Calls Tryz.prog f #[.pointer (some ⟨p,0,none⟩),.pointer (some ⟨p1,0,none⟩)] w fun e w'=>e=o.e∧Below w.heap.size w w'
def ValC2 (f:FuncId) (l:List Int) (a b:Int):Prop:=∃ o,OutOK o∧∀ w p p1 p2 A c,GOK w→InRow w A l.length c l→w.cell? ⟨p,0,none⟩=some (.slice A l.length c)→p<w.heap.size→w.cell? ⟨p1,0,none⟩=some (.int .i64 a)→p1<w.heap.size→w.cell? ⟨p2,0,none⟩=some (.int .i64 b)→p2<w.heap.size →
 Calls Tryz.prog f #[.pointer (some ⟨p,0,none⟩),.pointer (some ⟨p1,0,none⟩),.pointer (some ⟨p2,0,none⟩)] w fun e w'=>e=o.e∧Below w.heap.size w w'
theorem mean_zero (w:World) :
  Calls Tryz.prog 60 #[.agg #[.int .i64 0,.int .i64 0,.int .i64 0]] w fun e w'=>e=.returned (.tuple #[.int .i64 0,.int .i64 4])∧Below w.heap.size w w':=by
 have HC:=Lib.hid (fun w'=>scheck_ok 0 0 0 (sumsOK_of (Btw.nil 0 16777216) (Nat.zero_le 64)) w')
 have qa:=alloc_cells
 have qf:=alloc_frozens
 go_enter Tryz.func60,Tryz.ntmps60
 go_wp2_with fail
 refine (HC.out _).mono ?_
 rintro e w1 ⟨rfl,hb1⟩
 have z1:=hb1.size
 have c1:=Below.cells hb1
 have f1:=Below.frozens hb1
 try simp only [World.size_alloc,World.size_setCell,World.size_drew] at z1 c1 f1
 go_wp2_with fail
 go_wp2_with fail
 refine bodyPost_ret (v:=.tuple #[.int .i64 0,.int .i64 4]) (by simp [results,Tryz.results60,go_sem]) rfl ?_
 exact ⟨rfl,(by repeat (first | (with_reducible exact Below.refl _ _) | (with_reducible refine bAl ?_ _) | (with_reducible refine bSc ?_ _) | (with_reducible refine Below.drew ?_) | (with_reducible refine bTm ?_ hb1)))⟩
theorem mean_any (l:List Int) (h:LE l=0):∃ x e0,(-9223372036854775808≤x∧x≤9223372036854775807)∧(0≤e0∧e0≤11)∧∀ w,Calls Tryz.prog 60 #[.agg #[.int .i64 (l.length:Nat),.int .i64 (sumI l),.int .i64 (sqI l)]] w fun e w'=>e=.returned (.tuple #[.int .i64 x,.int .i64 e0])∧Below w.heap.size w w':=by
 obtain ⟨h64,hb⟩:=LE_ok h
 have ok:=sumsOK_of hb h64
 obtain ⟨b1,b2,b3,b4,_⟩:=ok.bd
 cases l with
 | nil=>exact ⟨0,4,by decide,by decide,mean_zero⟩
 | cons y l=>
  have h1:=Int.ediv_nonneg b3 b1
  have h2:=Int.ediv_le_self ((y :: l).length:Int) b3
  exact ⟨_,0,⟨by omega,by omega⟩,by decide,fun w=>mean_ok _ _ _ _ ok (by simp) rfl w⟩
theorem spread_any (l:List Int) (h:LE l=0):∃ x e0,(-9223372036854775808≤x∧x≤9223372036854775807)∧(0≤e0∧e0≤11)∧∀ w,Calls Tryz.prog 62 #[.agg #[.int .i64 (l.length:Nat),.int .i64 (sumI l),.int .i64 (sqI l)]] w fun e w'=>e=.returned (.tuple #[.int .i64 x,.int .i64 e0])∧Below w.heap.size w w':=by
 obtain ⟨h64,hb⟩:=LE_ok h
 have ok:=sumsOK_of hb h64
 obtain ⟨b1,b2,b3,b4,b5,b6,b7,b8,b9,b10⟩:=ok.bd
 exact ⟨_,0,⟨by omega,by omega⟩,by decide,fun w=>spread_ok _ _ _ _ ok rfl w⟩
theorem vmean_of (l:List Int) (hm:l.length≤9223372036854775807) (h0:LE l=0) (x e0:Int) (hx : -9223372036854775808≤x∧x≤9223372036854775807) (H:∀ w,Calls Tryz.prog 60 #[.agg #[.int .i64 (l.length:Nat),.int .i64 (sumI l),.int .i64 (sqI l)]] w fun e w'=>e=.returned (.tuple #[.int .i64 x,.int .i64 e0])∧Below w.heap.size w w')
  (w:World) (p:Nat) (A:Option Addr) (c:Nat) (g:GOK w) (hr:InRow w A l.length c l) (hp:w.cell? ⟨p,0,none⟩=some (.slice A l.length c)) (hlt:p<w.heap.size) :
  Calls Tryz.prog 59 #[.pointer (some ⟨p,0,none⟩)] w fun e w'=>e=(oneO x e0).e∧Below w.heap.size w w':=by
 obtain ⟨n,hn⟩:∃ n,l.length=n:=⟨_,rfl⟩
 rw [hn] at H hr hp hm
 have HS:=Lib.hid (dsums_ok A n c l w hr.1 h0)
 obtain ⟨s,hs⟩:∃ s,sumI l=s:=⟨_,rfl⟩
 obtain ⟨q,hq⟩:∃ s,sqI l=s:=⟨_,rfl⟩
 rw [hs,hq] at HS H
 have HC:=Lib.hid H
 have HT:=Lib.hid (fun w' (h:Below w.heap.size w w')=>one_any x e0 w' (g.below h g.low) hx)
 obtain ⟨o,ho⟩:∃ o,oneO x e0=o:=⟨_,rfl⟩
 rw [ho] at HT ⊢
 clear h0 H hr hn hs hq g hx ho
 go_enter Tryz.func59,Tryz.ntmps59
 go_wp2_with fail
 refine (HS.out).mono ?_
 rintro e w1 ⟨rfl,hb1⟩
 have z1:=hb1.size
 have c1:=Below.cells hb1
 have f1:=Below.frozens hb1
 try simp only [World.size_alloc,World.size_setCell,World.size_drew] at z1 c1 f1
 go_wp2_with fail
 go_wp2_with fail
 refine (HC.out _).mono ?_
 rintro e w2 ⟨rfl,hb2⟩
 have z2:=hb2.size
 have c2:=Below.cells hb2
 have f2:=Below.frozens hb2
 try simp only [World.size_alloc,World.size_setCell,World.size_drew] at z2 c2 f2
 go_wp2_with fail
 have hbw:Below w.heap.size w w2:=(by repeat (first | (with_reducible exact Below.refl _ _) | (with_reducible refine bAl ?_ _) | (with_reducible refine bSc ?_ _) | (with_reducible refine Below.drew ?_) | (with_reducible refine bTm ?_ hb2) | (with_reducible refine bTm ?_ hb1)))
 go_wp2_with fail
 refine (HT.out _ hbw).mono ?_
 rintro e w3 ⟨he,hb3⟩
 have hb4:Below w.heap.size w w3:=hbw.trans (hb3.mono hbw.size)
 cases o with
 | err e1=>
  obtain rfl:e=Fault e1:=he
  exact ⟨rfl,rfl,hb4⟩
 | txt t=>
  obtain rfl:e=.returned (.string t):=he
  go_wp2_with fail
  refine bodyPost_ret (v:=.string t) (by simp [results,Tryz.results59,go_sem]) rfl ?_
  exact ⟨rfl,hb4⟩
theorem vmean_ex (l:List Int) (hm:l.length≤9223372036854775807):ValC0 59 l:=by
 by_cases h0:LE l=0
 ·obtain ⟨x,e0,hx,he,H⟩:=mean_any l h0
  refine ⟨oneO x e0,oneO_ok he hx,fun w p A c g hr hp hlt=>vmean_of l hm h0 x e0 hx H w p A c g hr hp hlt⟩
 ·have hbd:=LE_bd l
  refine ⟨.err (LE l),⟨by omega,by omega⟩,fun w p A c g hr hp hlt=>?_⟩
  obtain ⟨n,hn⟩:∃ n,l.length=n:=⟨_,rfl⟩
  rw [hn] at hr hp hm
  have HS:=Lib.hid (dsums_no A n c l w hr.1 hm h0)
  obtain ⟨e0,he⟩:∃ e,LE l=e:=⟨_,rfl⟩
  rw [he] at HS ⊢
  clear h0 hr hn g he hbd
  go_enter Tryz.func59,Tryz.ntmps59
  go_wp2_with fail
  refine HS.out.mono ?_
  rintro e w1 ⟨rfl,hb1⟩
  exact ⟨rfl,rfl,hb1⟩
theorem vspread_ex (l:List Int) (hm:l.length≤9223372036854775807):ValC0 61 l:=by
 by_cases h0:LE l=0
 ·obtain ⟨x,e0,hx,he,H⟩:=spread_any l h0
  refine ⟨oneO x e0,oneO_ok he hx,fun w p A c g hr hp hlt=>?_⟩
  obtain ⟨n,hn⟩:∃ n,l.length=n:=⟨_,rfl⟩
  rw [hn] at H hr hp hm
  have HS:=Lib.hid (dsums_ok A n c l w hr.1 h0)
  obtain ⟨s,hs⟩:∃ s,sumI l=s:=⟨_,rfl⟩
  obtain ⟨q,hq⟩:∃ s,sqI l=s:=⟨_,rfl⟩
  rw [hs,hq] at HS H
  have HC:=Lib.hid H
  have HT:=Lib.hid (fun w' (h:Below w.heap.size w w')=>one_any x e0 w' (g.below h g.low) hx)
  obtain ⟨o,ho⟩:∃ o,oneO x e0=o:=⟨_,rfl⟩
  rw [ho] at HT ⊢
  clear h0 H hr hn hs hq g he hx ho
  go_enter Tryz.func61,Tryz.ntmps61
  go_wp2_with fail
  refine (HS.out).mono ?_
  rintro e w1 ⟨rfl,hb1⟩
  have z1:=hb1.size
  have c1:=Below.cells hb1
  have f1:=Below.frozens hb1
  try simp only [World.size_alloc,World.size_setCell,World.size_drew] at z1 c1 f1
  go_wp2_with fail
  go_wp2_with fail
  refine (HC.out _).mono ?_
  rintro e w2 ⟨rfl,hb2⟩
  have z2:=hb2.size
  have c2:=Below.cells hb2
  have f2:=Below.frozens hb2
  try simp only [World.size_alloc,World.size_setCell,World.size_drew] at z2 c2 f2
  go_wp2_with fail
  have hbw:Below w.heap.size w w2:=(by repeat (first | (with_reducible exact Below.refl _ _) | (with_reducible refine bAl ?_ _) | (with_reducible refine bSc ?_ _) | (with_reducible refine Below.drew ?_) | (with_reducible refine bTm ?_ hb2) | (with_reducible refine bTm ?_ hb1)))
  go_wp2_with fail
  refine (HT.out _ hbw).mono ?_
  rintro e w3 ⟨he,hb3⟩
  have hb4:Below w.heap.size w w3:=hbw.trans (hb3.mono hbw.size)
  cases o with
  | err e1=>
   obtain rfl:e=Fault e1:=he
   exact ⟨rfl,rfl,hb4⟩
  | txt t=>
   obtain rfl:e=.returned (.string t):=he
   go_wp2_with fail
   refine bodyPost_ret (v:=.string t) (by simp [results,Tryz.results61,go_sem]) rfl ?_
   exact ⟨rfl,hb4⟩
 ·have hbd:=LE_bd l
  refine ⟨.err (LE l),⟨by omega,by omega⟩,fun w p A c g hr hp hlt=>?_⟩
  obtain ⟨n,hn⟩:∃ n,l.length=n:=⟨_,rfl⟩
  rw [hn] at hr hp hm
  have HS:=Lib.hid (dsums_no A n c l w hr.1 hm h0)
  obtain ⟨e0,he⟩:∃ e,LE l=e:=⟨_,rfl⟩
  rw [he] at HS ⊢
  clear h0 hr hn g he hbd
  go_enter Tryz.func61,Tryz.ntmps61
  go_wp2_with fail
  refine HS.out.mono ?_
  rintro e w1 ⟨rfl,hb1⟩
  exact ⟨rfl,rfl,hb1⟩
theorem vsums_ex (l:List Int) (hm:l.length≤9223372036854775807):ValC0 56 l:=by
 by_cases h0:LE l=0
 ·obtain ⟨h64,hb⟩:=LE_ok h0
  obtain ⟨b1,b2,b3,b4,b5,b6,_⟩:=(sumsOK_of hb h64).bd
  refine ⟨.txt (toldT [(l.length:Int),sumI l,sqI l]),⟨toldT_okT _,Nat.le_trans (toldT_size [(l.length:Int),sumI l,sqI l] (fun y hy=>by
   rcases List.mem_cons.1 hy with rfl | hy
   ·omega
   ·rcases List.mem_cons.1 hy with rfl | hy
    ·omega
    ·rw [List.mem_singleton.1 hy];omega)) (by simp)⟩,fun w p A c g hr hp hlt=>?_⟩
  obtain ⟨n,hn⟩:∃ n,l.length=n:=⟨_,rfl⟩
  rw [hn] at hr hp hm b1 b2 ⊢
  have HS:=Lib.hid (dsums_ok A n c l w hr.1 h0)
  obtain ⟨s,hs⟩:∃ s,sumI l=s:=⟨_,rfl⟩
  obtain ⟨q,hq⟩:∃ s,sqI l=s:=⟨_,rfl⟩
  rw [hs,hq] at HS ⊢
  rw [hs] at b3 b4
  rw [hq] at b5 b6
  have HT:=Lib.hid (fun w' A c (h:Below w.heap.size w w') (hr:Row w' A 3 [(n:Int),s,q])=>told_num A 3 c [(n:Int),s,q] w' (g.below h g.low) hr (by omega) (fun y hy=>by
   rcases List.mem_cons.1 hy with rfl | hy
   ·omega
   ·rcases List.mem_cons.1 hy with rfl | hy
    ·omega
    ·rw [List.mem_singleton.1 hy];omega))
  have qa:=alloc_cells
  have qf:=alloc_frozens
  clear h0 hr hn hs hq g hb b1 b2 b3 b4 b5 b6
  go_enter Tryz.func56,Tryz.ntmps56
  go_wp2_with fail
  refine (HS.out).mono ?_
  rintro e w1 ⟨rfl,hb1⟩
  have z1:=hb1.size
  have c1:=Below.cells hb1
  have f1:=Below.frozens hb1
  try simp only [World.size_alloc,World.size_setCell,World.size_drew] at z1 c1 f1
  go_wp2_with fail
  go_wp2_with fail
  have hbw:Below w.heap.size w ((w1.alloc (.cells #[.int .i64 n,.int .i64 s,.int .i64 q] 93)).alloc (.cells #[.int .i64 n,.int .i64 s,.int .i64 q] 3)):=(by repeat (first | (with_reducible exact Below.refl _ _) | (with_reducible refine bAl ?_ _) | (with_reducible refine bSc ?_ _) | (with_reducible refine Below.drew ?_) | (with_reducible refine bTm ?_ hb1)))
  refine (HT.out _ _ _ hbw ?_).mono ?_
  ·have:=Row.lit (w1.alloc (.cells #[.int .i64 n,.int .i64 s,.int .i64 q] 93)) 3 [(n:Int),s,q] 3 rfl
   simpa using this
  rintro e w3 ⟨rfl,hb3⟩
  go_wp2_with fail
  refine bodyPost_ret (v:=.string (toldT [(n:Int),s,q])) (by simp [results,Tryz.results56,go_sem]) rfl ?_
  exact ⟨rfl,hbw.trans (hb3.mono hbw.size)⟩
 ·have hbd:=LE_bd l
  refine ⟨.err (LE l),⟨by omega,by omega⟩,fun w p A c g hr hp hlt=>?_⟩
  obtain ⟨n,hn⟩:∃ n,l.length=n:=⟨_,rfl⟩
  rw [hn] at hr hp hm
  have HS:=Lib.hid (dsums_no A n c l w hr.1 hm h0)
  obtain ⟨e0,he⟩:∃ e,LE l=e:=⟨_,rfl⟩
  rw [he] at HS ⊢
  clear h0 hr hn g he hbd
  go_enter Tryz.func56,Tryz.ntmps56
  go_wp2_with fail
  refine HS.out.mono ?_
  rintro e w1 ⟨rfl,hb1⟩
  exact ⟨rfl,rfl,hb1⟩
end Go.Proofs.YtnaebigoknfndaaGreatDoor
namespace Go.Proofs.YtnaebigoknfndaaGreatDoor
open Go.RowKit Go.Shelf Go.Sort
attribute [local go_sem] Oper.semAt_some
def upto (l:List Int) (k:Nat):List Int:=(List.range k).map fun j=>l.getD j 0
theorem upto_succ (l:List Int) (k:Nat):upto l (k+1)=upto l k ++ [l.getD k 0]:=by simp [upto,List.range_succ]
theorem upto_length (l:List Int) (k:Nat):(upto l k).length=k:=by simp [upto]
theorem upto_take (l:List Int) {k:Nat} (hk:k≤l.length):upto l k=l.take k:=by
 apply List.ext_getElem
 ·simp [upto,hk]
 ·intro i h1 h2
  have:i<l.length:=by simp [upto] at h1;omega
  simp [upto,List.getD,this]
theorem upto_all (l:List Int):upto l l.length=l:=by rw [upto_take l (Nat.le_refl _),List.take_length]
theorem values1_in (n:Nat) (hn:1≤n) (l Bs n₀ b off len cap:Nat) (zs:List Int) (hreach:len≤1000000) (hb:b<n₀) (J Jx:List Int→World→Prop)
  (hY:∀ pre x W,J pre W→pre.length<len→YieldAt Fence.wide (n - 1) Tryz.prog l #[.int .i64 x] W fun e W'=>
   (e=.returned (.bool true)∧J (pre ++ [x]) W'∧Below n₀ W W')∨(e=.returned (.bool false)∧Jx (pre ++ [x]) W'))
  (W:World) (hBs:W.cell? ⟨Bs,0,none⟩=some (.slice (some ⟨b,off,none⟩) len cap)) (hc:∀ j,j<len→W.cell? ⟨b,off+j,none⟩=some (.int .i64 (zs.getD j 0))) (h0:J [] W) :
  CallsIn Fence.wide n Tryz.prog 144 #[.func (.yield l) #[] #[],.pointer (some ⟨Bs,0,none⟩)] W fun e W'=>(∃ v,e=.returned v) ∧
   ((∃ ys,ys=upto zs len∧J ys W')∨(∃ pre,(∃ k,k≤len∧pre=upto zs k)∧Jx pre W')):=by
 refine callsIn_of_wp Tryz.func144 rfl trivial ?_ rfl
 simp only [Tryz.ntmps144,List.size_toArray,List.length_cons,List.length_nil,Nat.reduceAdd,Nat.reduceSub,Array.replicate_succ,Array.replicate_zero,List.push_toArray,List.append_toArray,List.nil_append,List.cons_append]
 gi_wp2
 gi_loopw [7] (fun i wr=>∃ k:Nat,k≤len∧i=.int .i64 k∧J (upto zs k) wr∧Below n₀ W wr)
  (fun i _=>len - (intOf i).toNat)
 case atStart=>exact ⟨0,Nat.zero_le _,rfl,h0,Below.refl _ _⟩
 case round=>
  obtain ⟨k,hk,rfl,hJs,hnx⟩:=hrel
  have hcx:k<len→wr.cell? ⟨b,off+k,none⟩=some (.int .i64 (zs.getD k 0)):=fun h=>(hnx.cell (p:=⟨b,off+k,none⟩) hb).trans (hc k h)
  by_cases hlt:k<len
  ·have hcx':=hcx hlt
   have hus:=upto_succ zs k
   obtain ⟨x,hx⟩:∃ x,zs.getD k 0=x:=⟨_,rfl⟩
   rw [hx] at hcx' hus
   have HU:=Lib.hid hus
   clear hx hus hcx
   obtain ⟨fn,tmps,assign,body,hy,hR⟩:=hY _ x wr hJs (by rw [upto_length];exact hlt)
   gi_wp2
   refine hR.mono ?_
   rintro e W3 (⟨rfl,hJ3,hk3⟩ | ⟨rfl,hJx3⟩)
   ·gi_wp2
    go_roundw
    case rel=>exact ⟨k+1,by omega,by simp,by rw [HU.out];exact hJ3,hnx.trans hk3⟩
    case measure=>simp [intOf];omega
   ·gi_wp2
    refine bodyPost_ret (results_none rfl _ _ _) rfl ?_
    exact ⟨⟨_,rfl⟩,.inr ⟨_,⟨k+1,by omega,HU.out.symm⟩,hJx3⟩⟩
  ·obtain rfl:k=len:=by omega
   gi_wp2
   go_end0
   exact ⟨⟨_,rfl⟩,.inl ⟨_,rfl,hJs⟩⟩
theorem values1_zero_in (n:Nat) (l Bs:Nat) (a:Option Addr) (cap:Nat) (J:List Int→World→Prop) (W:World) (hBs:W.cell? ⟨Bs,0,none⟩=some (.slice a 0 cap)) (h0:J [] W) :
  CallsIn Fence.wide n Tryz.prog 144 #[.func (.yield l) #[] #[],.pointer (some ⟨Bs,0,none⟩)] W fun e W'=>(∃ v,e=.returned v)∧J [] W':=by
 refine callsIn_of_wp Tryz.func144 rfl trivial ?_ rfl
 simp only [Tryz.ntmps144,List.size_toArray,List.length_cons,List.length_nil,Nat.reduceAdd,Nat.reduceSub,Array.replicate_succ,Array.replicate_zero,List.push_toArray,List.append_toArray,List.nil_append,List.cons_append]
 gi_wp2
 gi_loopw [7] (fun i wr=>i=.int .i64 0∧J [] wr) (fun _ _=>0)
 case atStart=>exact ⟨rfl,h0⟩
 case round=>
  obtain ⟨rfl,hJs⟩:=hrel
  gi_wp2
  go_end0
  exact ⟨⟨_,rfl⟩,hJs⟩
theorem values_ok (a:Option Addr) (len cap:Nat) (w:World) :
  Calls Tryz.prog 113 #[.slice a len cap] w fun e w'=>e=.returned (.func (.func 144) #[] #[.pointer (some ⟨w.heap.size,0,none⟩)])∧w'=w.alloc (.cells #[.slice a len cap] 90):=by
 go_enter Tryz.func113,Tryz.ntmps113
 go_wp2
 go_ret
 exact ⟨rfl,rfl⟩
theorem values_stops (n:Nat) (hn:1≤n) (Bs n₀:Nat) (a:Option Addr) (len cap:Nat) (zs:List Int) (hreach:len≤1000000) (w:World) (hBs:Bs<w.heap.size) (hn₀:n₀≤w.heap.size)
  (hc:w.cell? ⟨Bs,0,none⟩=some (.slice a len cap)) (hl:zs.length=len) (hI:0<len→∃ b off,a=some ⟨b,off,none⟩∧b<n₀∧∀ j,j<len→w.cell? ⟨b,off+j,none⟩=some (.int .i64 (zs.getD j 0))) :
  SeqStopsK Fence.wide n Tryz.prog 144 #[.pointer (some ⟨Bs,0,none⟩)] (fun x:Int=>#[Value.int .i64 x]) (Below n₀) (fun ys=>ys=zs) (fun pre=>pre <+: zs) zs.length w:=fun l J Jx W hW _ _ hY h0=>by
 have hc':=(hW.cell (p:=⟨Bs,0,none⟩) hBs).trans hc
 by_cases h:0<len
 ·obtain ⟨b,off,rfl,hb,hcs⟩:=hI h
  refine (values1_in n hn l Bs n₀ b off len cap zs hreach hb J Jx (by rw [← hl];exact hY) W hc' (fun j hj=>(hW.cell (p:=⟨b,off+j,none⟩) (by show b<_;omega)).trans (hcs j hj)) h0).mono ?_
  rintro e W' ⟨he,⟨ys,rfl,hj⟩ | ⟨pre,⟨k,hk,rfl⟩,hj⟩⟩
  ·exact ⟨he,.inl ⟨_,by rw [← hl];exact upto_all zs,hj⟩⟩
  ·exact ⟨he,.inr ⟨_,by rw [upto_take zs (by omega)];exact List.take_prefix _ _,hj⟩⟩
 ·obtain rfl:len=0:=by omega
  obtain rfl:zs = []:=List.eq_nil_of_length_eq_zero hl
  exact (values1_zero_in n l Bs a cap J W hc' h0).mono fun e W' ⟨he,hj⟩=>⟨he,.inl ⟨_,rfl,hj⟩⟩
theorem appendSeq_in (n:Nat) (hn:3≤n) (Bs:Nat) (a:Option Addr) (len cap:Nat) (zs:List Int) (hreach:len≤1000000) (w:World) (hBs:Bs<w.heap.size)
  (hcl:w.cell? ⟨Bs,0,none⟩=some (.slice a len cap)) (hr:Row w a len zs) :
  CallsIn Fence.wide n Tryz.prog 166 #[.slice none 0 0,.func (.func 144) #[] #[.pointer (some ⟨Bs,0,none⟩)]] w fun e W'=>∃ v,e=.returned v∧W'.ownsRow w.heap.size 3 1 v zs.length (zs.map (Value.int .i64))∧(v=.slice none 0 0↔zs = [])∧Below w.heap.size w W':=by
 have h1:1≤n:=by omega
 obtain ⟨i0,hi,hz0,hz1,hz2⟩:=info_parts info_int
 refine callsIn_of_wp_marks Tryz.func166 rfl trivial ?_ rfl
 simp only [Tryz.ntmps166,List.size_toArray,List.length_cons,List.length_nil,Nat.reduceAdd,Nat.reduceSub,Array.replicate_succ,Array.replicate_zero,List.push_toArray,List.append_toArray,List.nil_append,List.cons_append]
 gi_wp2
 have hl:=hr.1
 have hml:zs.length≤maxLen:=by unfold maxLen;omega
 have hby:zs.length * 8≤140737488355328:=by omega
 have bO:=Boxed.new w 90 (.slice none 0 0)
 have hB0:Below w.heap.size w (w.alloc (.cells #[.slice none 0 0] 90)):=(Below.refl _ w).alloc (Nat.le_refl _) _
 refine wpIn_rangeFunc_ownG rfl h1 (gf:=144) (lb:=#[.pointer (some ⟨Bs,0,none⟩)]) rfl trivial (enters_of Tryz.func144 (by kernel_rfl) rfl)
  (values_stops (n - 1) (by omega) Bs w.heap.size a len cap zs hreach w hBs (Nat.le_refl _) hcl hl (fun h=>hr.2 h)) belowK_t (belowK_b (by simp)) hB0 (fun _=>rfl)
  (fun pre W=>(∃ v,Boxed W w.heap.size 90 v∧W.ownsRow w.heap.size 3 1 v pre.length (pre.map (Value.int .i64))∧(v=.slice none 0 0↔pre = []))∧Below w.heap.size w W)
  (fun _ _ _=>False)
  (OwnFrom.and (Own.from (holdsRow_own w.heap.size w.heap.size 90 3 1 (fun pre=>pre.length) (fun pre=>pre.map (Value.int .i64)) (fun pre v=>v=.slice none 0 0↔pre = [])) _) (ownFrom_below (Nat.le_refl _) (by simp)))
  (fun _ _ _ _ _ hs _ _=>hs)
  ⟨⟨_,bO,World.ownsRow_nil _ _ _ _,by simp⟩,hB0⟩
  (fun x=>{ tmps:=#[.slice none 0 0,.func (.func 144) #[] #[.pointer (some ⟨Bs,0,none⟩)],.pointer (some ⟨w.heap.size,0,none⟩),undef,.slice none 0 0,.int .i64 x,.func (.func 144) #[] #[.pointer (some ⟨Bs,0,none⟩)],.int .i64 x,undef,undef,undef,undef,undef],defers:=[] }) ?assign ?body ?done ?stop
 case assign=>
  intro l x W K hK
  gi_wp2
  exact hK
 case body=>
  rintro l pre x W ⟨⟨v,hv,hrow,hnil⟩,hB⟩ hlt
  have hc:=hv.cell
  gi_wp2_with (gi_at_builtin;refine wpListIn_append_own _ rfl _ _ 90 rfl w.heap.size 3 i0 (.int .i64 0) 1 8 Tryz.underlying90 hi hz0 hz1 hz2 rfl (by decide) _ _ _ rfl (hrow.alloc _) ⟨W.heap.size,0,none⟩ 1 1 [.int .i64 x] rfl rfl (cell_one_new _ _ _) (by simp [Value.oneCell']) (by omega) (by omega) (by have:=hB.size;simp;omega) ?_;intro v' w1 hown' hgrow _;obtain ⟨g',cap',rfl⟩:=ownsRow_succ hown';obtain ⟨hv1,hv2,hr2,hk2,hb2⟩:=hv.appended (by decide) hrow hB.size (Nat.le_refl _) hown' hgrow;have hc1:=hv1.cell;have hf1:=hv1.frozen)
  exact ⟨hk2.from _,hb2,⟨_,hv2,by simpa using hr2,by simp⟩,hB.trans hb2⟩
 case done=>
  rintro D ys W hD rfl ⟨⟨v,hv,hrow,hnil⟩,hB⟩ hK
  have hc:=hv.cell
  gi_wp2
  refine ⟨by simp,.inl ⟨_,_,rfl,run_takeDeferred hK,?_⟩⟩
  exact ⟨_,results_tmp rfl _ _ _,v,rfl,ownsRow_putObj hrow _ hK rfl,hnil,hB.trans (belowK_b (w:=w) (Nat.le_refl _) W D _ _ (by simp at hD;omega) hK rfl rfl)⟩
 case stop=>
  rintro D c pre W _ _ h _
  exact h.elim
theorem collect_own (Bs:Nat) (a:Option Addr) (len cap:Nat) (zs:List Int) (hreach:len≤1000000) (w:World) (hBs:Bs<w.heap.size)
  (hcl:w.cell? ⟨Bs,0,none⟩=some (.slice a len cap)) (hr:Row w a len zs) :
  Calls Tryz.prog 142 #[.func (.func 144) #[] #[.pointer (some ⟨Bs,0,none⟩)]] w fun e W'=>∃ v,e=.returned v∧W'.ownsRow w.heap.size 3 1 v zs.length (zs.map (Value.int .i64))∧(v=.slice none 0 0↔zs = [])∧Below w.heap.size w W':=by
 have hA:=callsIn_wide.1 (appendSeq_in 3 (by omega) Bs a len cap zs hreach w hBs hcl hr)
 go_enter Tryz.func142,Tryz.ntmps142
 go_wp2_with fail
 refine hA.mono ?_
 rintro e w' ⟨v,rfl,hrow,hnil,hb⟩
 go_wp2_with fail
 go_ret
 exact ⟨v,rfl,hrow,hnil,hb⟩
def srt (l:List Int):List Int:=l.mergeSort fun x y=>decide (x≤y)
theorem srt_len (l:List Int):(srt l).length=l.length:=List.length_mergeSort _
theorem srt_perm (l:List Int):(srt l).Perm l:=List.mergeSort_perm _ _
theorem sorted_own (Bs:Nat) (a:Option Addr) (len cap:Nat) (zs:List Int) (hreach:len≤1000000) (w:World) (hBs:Bs<w.heap.size)
  (hcl:w.cell? ⟨Bs,0,none⟩=some (.slice a len cap)) (hr:Row w a len zs) :
  Calls Tryz.prog 112 #[.func (.func 144) #[] #[.pointer (some ⟨Bs,0,none⟩)]] w fun e W'=>∃ A' c',e=.returned (.slice A' len c')∧W'.ownsRow w.heap.size 3 1 (.slice A' len c') len ((srt zs).map (Value.int .i64))∧Below w.heap.size w W':=by
 have hC:=collect_own Bs a len cap zs hreach w hBs hcl hr
 obtain rfl:=hr.1
 go_enter Tryz.func112,Tryz.ntmps112
 go_wp2_with fail
 refine hC.mono ?_
 rintro e w1 ⟨v,rfl,hrow,hnil,hb⟩
 rcases hrow.2 with ⟨rfl,hz⟩ | ⟨g,c',cur,rfl,hbase,hgb,r1,r2,r3,r4⟩
 ·obtain rfl:zs = []:=List.eq_nil_of_length_eq_zero hz
  go_wp2_with fail
  refine (Tryz.slices_Sort_int_none none 0 _).mono ?_
  rintro e w2 ⟨rfl,rfl⟩
  go_wp2_with fail
  go_ret
  exact ⟨none,0,rfl,by simpa [srt] using hrow,hb⟩
 ·have hH:Holds (Value.int .i64) w1 g 0 zs.toArray:=holds_of_block_i hgb (by simpa [encZ] using r4)
  have hgl:g<w1.heap.size:=(Array.getElem?_eq_some_iff.1 hgb).1
  have cS:=Tryz.slices_Sort_int g 0 c' zs w1 hH hgl (by omega)
  go_wp2_with fail
  refine cS.mono ?_
  rintro e w2 ⟨rfl,nn,os,rfl⟩
  go_wp2_with fail
  go_ret
  exact ⟨_,_,rfl,ownsRow_sorted_i (ts:=srt zs) (srt_len zs) hbase hgb r1 r2 r3,hb.grown (grownBy_sorted_i _) hb.size (fun j hj=>by cases hj;exact hbase)⟩
end Go.Proofs.YtnaebigoknfndaaGreatDoor
namespace Go.Proofs.YtnaebigoknfndaaGreatDoor
open Go.RowKit
theorem sorted_at (A:Option Addr) (n c:Nat) (l:List Int) (w:World) (hm:n≤64) (hr:Row w A n l) :
  Calls Tryz.prog 112 #[.func (.func 144) #[] #[.pointer (some ⟨w.heap.size,0,none⟩)]] (w.alloc (.cells #[.slice A n c] 90)) fun e W'=>∃ A' c',e=.returned (.slice A' n c')∧W'.ownsRow w.heap.size 3 1 (.slice A' n c') n ((srt l).map (Value.int .i64))∧Below w.heap.size w W':=by
 refine (sorted_own w.heap.size A n c l (by omega) _ (by simp) (by rw [World.cell?_alloc_new];rfl) (hr.below ((Below.refl _ _).alloc (Nat.le_refl _) _))).mono ?_
 rintro e w' ⟨A',c',rfl,ho,hb⟩
 refine ⟨A',c',rfl,?_,((Below.refl _ w).alloc (Nat.le_refl _) _).trans (hb.mono (by simp))⟩
 refine ⟨ho.1,?_⟩
 rcases ho.2 with h | ⟨g,cap,cur,h1,h2,h3⟩
 ·exact .inl h
 ·exact .inr ⟨g,cap,cur,h1,by simp at h2;omega,h3⟩
theorem rank_ok (A:Option Addr) (n c:Nat) (l:List Int) (p q x:Int) (K:Nat) (w:World) (hr:Row w A n l) (h0:0<n) (hm:n≤64) (hb:Btw 0 16777216 l) (hq:1≤q∧q≤1000) (hp:0≤p∧p≤q)
  (hK:max 1 (((n:Int) * p+q - 1) / q)=(K:Int)+1) (hKn:K<n) (hx:(srt l).getD K 0=x) :
  Calls Tryz.prog 65 #[.slice A n c,.int .i64 p,.int .i64 q] w fun e w'=>e=.returned (.tuple #[.int .i64 x,.int .i64 0])∧Below w.heap.size w w':=by
 have HL:=Lib.hid (list_ok A n c l w hr hm hb)
 have HV:=Lib.hid (values_ok A n c w)
 have HS:=Lib.hid (sorted_at A n c l w hm hr)
 obtain ⟨q1,q2⟩:=hq
 obtain ⟨p1,p2⟩:=hp
 have m1:0≤(n:Int) * p:=Int.mul_nonneg (by omega) p1
 have m2:(n:Int) * p≤64 * 1000:=Int.mul_le_mul (by omega) (by omega) p1 (by omega)
 obtain ⟨M,hM⟩:∃ M,(n:Int) * p=M:=⟨_,rfl⟩
 rw [hM] at m1 m2 hK
 have hMw:IntKind.i64.wrap ((n:Int) * p)=M:=by rw [hM];exact IntWalk.i64_in _ (by omega)
 obtain ⟨D,hD⟩:∃ D,(M+q - 1) / q=D:=⟨_,rfl⟩
 rw [hD] at hK
 have d1:0≤D:=by rw [← hD];exact Int.ediv_nonneg (by omega) (by omega)
 have d2:D≤64:=by omega
 have hD2:(M+q - 1).tdiv q=D:=by rw [Int.tdiv_eq_ediv_of_nonneg (by omega)];exact hD
 have a1:¬ q<1:=by omega
 have a2:¬ 1000<q:=by omega
 have a3:¬ p<0:=by omega
 have a4:¬ q<p:=by omega
 have n1:((n:Int)==0)=false:=by simp;omega
 have HX:=Lib.hid hx
 have kz:(0:Int)≤K:=by omega
 have kn:(K:Int)<n:=by omega
 clear hr hb hx hm
 go_enter Tryz.func65,Tryz.ntmps65
 go_wp2_with fail
 refine (HL.out).mono ?_
 rintro e w' ⟨rfl,rfl⟩
 go_wp2_with fail
 refine HV.out.mono ?_
 rintro e w1 ⟨rfl,rfl⟩
 go_wp2_with fail
 refine HS.out.mono ?_
 rintro e w2 ⟨A',c',rfl,ho,hb⟩
 obtain ⟨b,off,rfl,lt,hcell⟩:=(Row.of_own ho).each K hKn
 rw [HX.out] at hcell
 clear ho
 go_wp2_with fail
 go_ret2
 exact ⟨rfl,hb⟩
end Go.Proofs.YtnaebigoknfndaaGreatDoor

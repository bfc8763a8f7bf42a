/- What the desk's two laws lean on: part 16 (contracts and plain laws; their conditions stand in each). -/
import Derived.Test.YtnaebigoknfndaaGreatDoorE01
import Derived.Test.YtnaebigoknfndaaGreatDoorE15
import Derived.Maps.OwnOps
import Derived.Test.YtnaebigoknfndaaGreatDoorE07
import Derived.Recover
import Derived.Lib.ItoaNum
import Derived.Lib.AtoiAll
import Derived.Lib.AppendIntMem
import Derived.Lib.AtoiErrMem
import Derived.Test.YtnaebigoknfndaaGreatDoorE09
import Derived.Test.YtnaebigoknfndaaGreatDoorE04
import Derived.RegionTactic
import Derived.Lib.Hide
import Derived.Lib.BitFns
set_option linter.unusedVariables false
set_option linter.unusedSimpArgs false
set_option maxRecDepth 100000
set_option maxHeartbeats 20000000
namespace Go.Proofs.YtnaebigoknfndaaGreatDoor
open Go Go.RowKit Go.Maps
theorem tnew_many (A:Option Addr) (n c:Nat) (w:World) (hn:5<n) :
  Calls Tryz.prog 76 #[.slice A n c] w fun e w'=>e=.returned (.tuple #[.pointer none,.int .i64 2])∧Below w.heap.size w w':=by
 have h5:(5:Int)<n:=by omega
 go_enter Tryz.func76,Tryz.ntmps76
 go_wp2_with fail
 refine bodyPost_ret (v:=.tuple #[.pointer none,.int .i64 2]) (by simp [results,Tryz.results76,go_sem]) rfl ?_
 exact ⟨rfl,Below.refl _ _⟩
def TNone (w:World) (t:Nat):Prop:=∃ A1 c1 A3,w.heap[t]? = some (.cells #[.slice A1 0 c1,.slice none 0 0,.slice A3 0 0,.slice none 0 0] 147 (0,0))
theorem TNone.tlen {w:World} {t:Nat} (h:TNone w t):TLen w t 0 0:=by
 obtain ⟨A1,c1,A3,h⟩:=h
 exact ⟨_,_,_,_,_,_,_,_,h⟩
theorem TNone.lt {w:World} {t:Nat} (h:TNone w t):t<w.heap.size:=by
 obtain ⟨A1,c1,A3,h⟩:=h
 exact (Array.getElem?_eq_some_iff.1 h).1
theorem TNone.same {w w':World} {t:Nat} (h:TNone w t) (hs:w'.heap[t]? = w.heap[t]?):TNone w' t:=by
 obtain ⟨A1,c1,A3,h⟩:=h
 exact ⟨A1,c1,A3,hs.trans h⟩
theorem ttick_nil (w:World) {t:Nat} (h:TNone w t) (g:Int) (hg:1≤g∧g≤1000) :
  Calls Tryz.prog 83 #[.pointer (some ⟨t,0,none⟩),.int .i64 g] w fun e w'=>e=.returned (.tuple #[.slice none 0 0,.int .i64 0])∧Below w.heap.size w w':=by
 have tl:=h.lt
 obtain ⟨A1,c1,A3,h⟩:=h
 have k0:w.cell? ⟨t,0,none⟩=some (.slice A1 0 c1):=by simp [World.cell?,h]
 have k1:w.cell? ⟨t,1,none⟩=some (.slice none 0 0):=by simp [World.cell?,h]
 have k3:w.cell? ⟨t,3,none⟩=some (.slice none 0 0):=by simp [World.cell?,h]
 have g3:decide (1000<g)=false:=by simp;omega
 have g4:¬ g<1:=by omega
 clear h
 go_enter Tryz.func83,Tryz.ntmps83
 go_wp2_with fail
 go_loopw [6,32] (fun v i wr=>i=.int .i64 0∧v=.int .i64 0∧wr=w) (fun _ _ _=>0)
 case atStart=>exact ⟨rfl,rfl,rfl⟩
 case round=>
  obtain ⟨wx,rfl⟩:∃ z:World,z=wr:=⟨_,rfl⟩
  obtain ⟨rfl,rfl,rfl⟩:=hrel
  go_wp2_with fail
  go_loopw [10,84] (fun v i wy=>i=.int .i64 0∧v=.slice none 0 0∧wy=wx) (fun _ _ _=>0)
  case atStart=>exact ⟨rfl,rfl,rfl⟩
  case round=>
   obtain ⟨wy,rfl⟩:∃ z:World,z=wr:=⟨_,rfl⟩
   obtain ⟨rfl,rfl,rfl⟩:=hrel
   go_wp2_with fail
   refine bodyPost_ret (v:=.tuple #[.slice none 0 0,.int .i64 0]) (by simp [results,Tryz.results83,go_sem]) rfl ?_
   exact ⟨rfl,Below.refl _ _⟩
theorem tway_nil (w:World) {t:Nat} (h:TNone w t) :
  Calls Tryz.prog 80 #[.pointer (some ⟨t,0,none⟩)] w fun e w'=>∃ A' c',e=.returned (.slice A' 0 c')∧Below w.heap.size w w':=by
 have tl:=h.lt
 obtain ⟨A1,c1,A3,h⟩:=h
 have k3:w.cell? ⟨t,3,none⟩=some (.slice none 0 0):=by simp [World.cell?,h]
 have HC:=Lib.hid (fun w'=>cloneT_ok none 0 0 0 [] w' (World.ownsRow_nil _ _ _ _) (by omega))
 clear h
 go_enter Tryz.func80,Tryz.ntmps80
 go_wp2_with fail
 refine (HC.out _).mono ?_
 rintro e w1 ⟨A',c',rfl,own,hb⟩
 go_wp2_with fail
 refine bodyPost_ret (v:=.slice A' 0 c') (by simp [results,Tryz.results80,go_sem]) rfl ?_
 exact ⟨A',c',rfl,hb⟩
theorem tnew_nil (w:World) :
  Calls Tryz.prog 76 #[.slice none 0 0] w fun e w'=>∃ t,e=.returned (.tuple #[.pointer (some ⟨t,0,none⟩),.int .i64 0])∧TNone w' t∧w.heap.size≤t∧Below w.heap.size w w':=by
 have own:w.ownsRow w.heap.size 106 5 (.slice none 0 0) 0 (cfgV (fun _=>⟨⟨#[]⟩,0,0,0⟩) 0):=World.ownsRow_nil _ _ _ _
 have HC:=Lib.hid (fun w' (o:w'.ownsRow w.heap.size 106 5 (.slice none 0 0) 0 (cfgV (fun _=>⟨⟨#[]⟩,0,0,0⟩) 0))=>cloneC_ok none 0 0 w.heap.size (fun _=>⟨⟨#[]⟩,0,0,0⟩) w' o (by omega))
 have HO:=Lib.hid own
 obtain ⟨ib,hib,hb0,hb1',hb2⟩:=info_parts info_bool
 have hmm:=@run_makeMap Tryz.prog
 clear own
 go_enter Tryz.func76,Tryz.ntmps76
 go_upto_region 3 with fail
 go_cut [4] (fun v wc=>∃ (t:Nat) (A1:Option Addr) (c1 g:Nat),v=.pointer (some ⟨t,0,none⟩)∧wc.heap[t]? = some (.cells #[.slice A1 0 c1,.slice none 0 0,.slice (some ⟨g,0,none⟩) 0 0,.slice none 0 0] 147 (0,0))∧w.heap.size≤t∧Below w.heap.size w wc)
 case first=>
  have kk:(fun _:World=>True) w.drew:=trivial
  refine wp_region_M (fun _=>True) (fun _=>false) 8 rfl (by kernel_rfl) ?_
  (refine wpAnyM_tk (i:=0) (v:=?_) rfl (Or.inl ⟨by rfl,?_⟩) kk ?_;(rotate_left;(intro w hSw;(try dsimp only at hSw);go_simp;try with_reducible rfl));(try simp only [Act.put,List.setIfInBounds_toArray,List.set_cons_zero,List.set_cons_succ]))
  (refine wpAnyM_tk (i:=2) (v:=?_) rfl (Or.inl ⟨by rfl,?_⟩) kk ?_;(rotate_left;(intro w hSw;(try dsimp only at hSw);go_simp;try with_reducible rfl));(try simp only [Act.put,List.setIfInBounds_toArray,List.set_cons_zero,List.set_cons_succ]))
  (refine wpAnyM_tk (i:=3) (v:=?_) rfl (Or.inl ⟨by rfl,?_⟩) kk ?_;(rotate_left;(intro w hSw;(try dsimp only at hSw);go_simp;try with_reducible rfl));(try simp only [Act.put,List.setIfInBounds_toArray,List.set_cons_zero,List.set_cons_succ]))
  refine wpAnyM_two (i:=1) (j:=4) (by kernel_rfl) rfl rfl (fun K hK=>?_) (fun K hK=>?_)
  ·go_simp
   refine (HC.out w.drew HO.out).mono ?_
   rintro e w1 ⟨A1,c1,rfl,own1,hb1⟩
   have hbw:Below w.heap.size w w1:=(Below.drew (Below.refl _ w)).trans hb1
   have z1:w.heap.size≤w1.heap.size:=hbw.size
   go_simp
   refine hK _ _ (fun _=>trivial) ?_
   clear hK K
   refine wpAnyM_one (i:=4) (by kernel_rfl) rfl (fun K hK=>?_)
   refine wp_make_full _ _ 144 rfl w.heap.size 4 ib (.bool false) 1 Tryz.underlying144 hib hb0 hb1' 0 (by simp [Act.eval,Act.put]) (by simp [Act.eval,Act.put]) (by rw [hb2];omega) (by unfold maxLen;omega) z1 ?_
   intro w2 own2 gr2
   have hb2':=grownN_below gr2
   have z2:=hb2'.size
   have lg2:=(own2.lt _ rfl).2
   have O1:=own_below own1 hb2'
   refine hK _ _ (fun _=>trivial) ?_
   clear hK K
   have k2:(fun _:World=>True) w2:=trivial
   (refine wpAnyM_tk (i:=5) (v:=?_) rfl (Or.inl ⟨by rfl,?_⟩) k2 ?_;(rotate_left;(intro w hSw;(try dsimp only at hSw);go_simp;try with_reducible rfl));(try simp only [Act.put,List.setIfInBounds_toArray,List.set_cons_zero,List.set_cons_succ]))
   refine wpAnyM_one (i:=6) (by kernel_rfl) rfl (fun K hK=>?_)
   go_simp
   refine hK _ _ (fun _=>trivial) ?_
   clear hK K
   have k3:(fun _:World=>True) (w2.alloc (.cells #[.slice A1 0 c1,.slice none 0 0,.slice (some ⟨w1.heap.size,0,none⟩) 0 0,.slice none 0 0] 147)):=trivial
   (refine wpAnyM_tk (i:=7) (v:=?_) rfl (Or.inl ⟨by rfl,?_⟩) k3 ?_;(rotate_left;(intro w hSw;(try dsimp only at hSw);go_simp;try with_reducible rfl));(try simp only [Act.put,List.setIfInBounds_toArray,List.set_cons_zero,List.set_cons_succ]))
   refine wpAnyM_done (by kernel_rfl) ?_ _
   go_simp
   go_wp2_with fail
   go_meet
   case rel=>exact ⟨w2.heap.size,A1,c1,w1.heap.size,rfl,heap_alloc_new' _ _,by omega,(hbw.trans (hb2'.mono z1)).alloc (by omega) _⟩
  ·refine wp_make_full _ _ 144 rfl w.heap.size 4 ib (.bool false) 1 Tryz.underlying144 hib hb0 hb1' 0 (by simp [Act.eval,Act.put]) (by simp [Act.eval,Act.put]) (by rw [hb2];omega) (by unfold maxLen;omega) (Nat.le_refl _) ?_
   intro w1 own1 gr1
   have hb1':=grownN_below gr1
   have hbw:Below w.heap.size w w1:=(Below.drew (Below.refl _ w)).trans hb1'
   have z1:w.heap.size≤w1.heap.size:=hbw.size
   have lg1:w.heap.size<w1.heap.size:=(own1.lt _ rfl).2
   refine hK _ _ (fun _=>trivial) ?_
   clear hK K
   refine wpAnyM_one (i:=1) (by kernel_rfl) rfl (fun K hK=>?_)
   go_simp
   refine (HC.out w1 (own_below HO.out hbw)).mono ?_
   rintro e w2 ⟨A2,c2,rfl,own2,hb2⟩
   have z2:=hb2.size
   have O1:=own_below own1 hb2
   have O2:=own_mono own2 z1
   go_simp
   refine hK _ _ (fun _=>trivial) ?_
   clear hK K
   have k2:(fun _:World=>True) w2:=trivial
   (refine wpAnyM_tk (i:=5) (v:=?_) rfl (Or.inl ⟨by rfl,?_⟩) k2 ?_;(rotate_left;(intro w hSw;(try dsimp only at hSw);go_simp;try with_reducible rfl));(try simp only [Act.put,List.setIfInBounds_toArray,List.set_cons_zero,List.set_cons_succ]))
   refine wpAnyM_one (i:=6) (by kernel_rfl) rfl (fun K hK=>?_)
   go_simp
   refine hK _ _ (fun _=>trivial) ?_
   clear hK K
   have k3:(fun _:World=>True) (w2.alloc (.cells #[.slice A2 0 c2,.slice none 0 0,.slice (some ⟨w.heap.size,0,none⟩) 0 0,.slice none 0 0] 147)):=trivial
   (refine wpAnyM_tk (i:=7) (v:=?_) rfl (Or.inl ⟨by rfl,?_⟩) k3 ?_;(rotate_left;(intro w hSw;(try dsimp only at hSw);go_simp;try with_reducible rfl));(try simp only [Act.put,List.setIfInBounds_toArray,List.set_cons_zero,List.set_cons_succ]))
   refine wpAnyM_done (by kernel_rfl) ?_ _
   go_simp
   go_wp2_with fail
   go_meet
   case rel=>exact ⟨w2.heap.size,A2,c2,w.heap.size,rfl,heap_alloc_new' _ _,by omega,(hbw.trans (hb2.mono z1)).alloc (by omega) _⟩
 case rest=>
  obtain ⟨t,A1,c1,g,rfl,ht,htw,bel⟩:=hcut
  have tl:t<wc.heap.size:=(Array.getElem?_eq_some_iff.1 ht).1
  have ab:Below wc.heap.size wc (wc.alloc (.map #[] 0)):=(Below.refl _ _).alloc (Nat.le_refl _) _
  have T5:=Lib.hid ((ab.block t tl).trans ht)
  have B5:=Lib.hid (bel.trans (ab.mono bel.size))
  clear ht bel
  go_wp2_with fail
  generalize wc.alloc (.map #[] 0)=w5 at T5 B5 ab ⊢
  clear ab
  have k1:w5.cell? ⟨t,1,none⟩=some (.slice none 0 0):=by have:=T5.out;simp [World.cell?,this]
  have tl5:t<w5.heap.size:=(Array.getElem?_eq_some_iff.1 T5.out).1
  go_loopw [27] (fun i wr=>i=.int .i64 0∧wr=w5) (fun _ _=>0)
  case atStart=>exact ⟨rfl,rfl⟩
  case round=>
   obtain ⟨rfl,rfl⟩:=hrel
   obtain ⟨w6,rfl⟩:∃ z:World,z=wr:=⟨_,rfl⟩
   go_wp2_with fail
   go_loopw [62] (fun i wy=>i=.int .i64 0∧wy=w6) (fun _ _=>0)
   case atStart=>exact ⟨rfl,rfl⟩
   case round=>
    obtain ⟨rfl,hw⟩:=hrel
    subst hw
    go_wp2_with fail
    refine bodyPost_ret (v:=.tuple #[.pointer (some ⟨t,0,none⟩),.int .i64 0]) (by simp [results,Tryz.results76,go_sem]) rfl ?_
    exact ⟨t,rfl,⟨_,_,_,T5.out⟩,htw,B5.out⟩
end Go.Proofs.YtnaebigoknfndaaGreatDoor
namespace Go.Proofs.YtnaebigoknfndaaGreatDoor
open Go Go.RowKit
def TAny (w:World) (t:Nat) (T:TSt) (f:Nat→Prop):Prop:=(1≤T.n∧TRep w t T f)∨(T.n=0∧T.way = []∧TNone w t∧f t∧∀ x,f x→x<w.heap.size)
variable {w w1:World} {t:Nat} {T T':TSt} {f f':Nat→Prop}
theorem TAny.lt (h:TAny w t T f):∀ x,f x→x<w.heap.size:=h.elim (fun h=>h.2.lt) (fun h=>h.2.2.2.2)
theorem TAny.same (h:TAny w t T f) (hs:Same f w w1):TAny w1 t T f:=by
 rcases h with h | ⟨h1,h2,h3,h4,h5⟩
 ·exact .inl ⟨h.1,h.2.same hs⟩
 ·exact .inr ⟨h1,h2,h3.same (hs.2 t (h5 t h4) h4),h4,fun x hx=>Nat.lt_of_lt_of_le (h5 x hx) hs.1⟩
theorem TAny.below (h:TAny w t T f) (hb:Below w.heap.size w w1):TAny w1 t T f:=h.same (Same.of_below hb)
theorem TAny.tlen (h:TAny w t T f):TLen w t T.n T.way.length:=by
 rcases h with h | ⟨h1,h2,h3,_⟩
 ·exact h.2.tlen
 ·rw [h1,h2];exact h3.tlen
theorem TAny.rep (h:TAny w t T f) {i:Nat} (hi:i<T.n):TRep w t T f:=by
 rcases h with h | ⟨h1,_⟩
 ·exact h.2
 ·omega
def TNotes (fid:FuncId) (args:Nat→Array Value) (T T':TSt) (N:List Note) (e0:Int):Prop:=∀ w t f,TAny w t T f →
 Calls Tryz.prog fid (args t) w fun e w'=>∃ A' c' f',e=.returned (.tuple #[.slice A' N.length c',.int .i64 e0])∧NoteRow w' A' N.length N∧TAny w' t T' f'∧(∀ x,f' x→f x∨w.heap.size≤x)∧Kept f w w'
def TErr (fid:FuncId) (args:Nat→Array Value) (T T':TSt) (e0:Int):Prop:=∀ w t f,TAny w t T f →
 Calls Tryz.prog fid (args t) w fun e w'=>∃ f',e=.returned (.int .i64 e0)∧TAny w' t T' f'∧(∀ x,f' x→f x∨w.heap.size≤x)∧Kept f w w'
def TNum (fid:FuncId) (args:Nat→Array Value) (T:TSt) (x e0:Int):Prop:=∀ w t f,TAny w t T f →
 Calls Tryz.prog fid (args t) w fun e w'=>e=.returned (.tuple #[.int .i64 x,.int .i64 e0])∧Below w.heap.size w w'
theorem noteRow_nil (w:World) (A:Option Addr):NoteRow w A 0 []:=⟨rfl,fun h=>absurd h (by omega)⟩
theorem TNotes.of_none {fid:FuncId} {args:Nat→Array Value} {e0:Int} (h:∀ w t f,TAny w t T f→Calls Tryz.prog fid (args t) w fun e w'=>e=.returned (.tuple #[.slice none 0 0,.int .i64 e0])∧Below w.heap.size w w'):TNotes fid args T T [] e0:=fun w t f hT=>by
 refine (h w t f hT).mono ?_
 rintro e w' ⟨rfl,hb⟩
 exact ⟨none,0,f,rfl,noteRow_nil _ _,hT.below hb,fun x hx=>.inl hx,Kept.of_below hb⟩
theorem TErr.of_none {fid:FuncId} {args:Nat→Array Value} {e0:Int} (h:∀ w t f,TAny w t T f→Calls Tryz.prog fid (args t) w fun e w'=>e=.returned (.int .i64 e0)∧Below w.heap.size w w'):TErr fid args T T e0:=fun w t f hT=>by
 refine (h w t f hT).mono ?_
 rintro e w' ⟨rfl,hb⟩
 exact ⟨f,rfl,hT.below hb,fun x hx=>.inl hx,Kept.of_below hb⟩
theorem TAny.way0 (h:TAny w t T f) (hn:T.n=0):TNone w t∧T.way = []:=by
 rcases h with h | ⟨h1,h2,h3,_⟩
 ·omega
 ·exact ⟨h3,h2⟩
theorem tick_all (h:TownOK T) (g:Int):∃ T' N e0,TownOK T'∧NotesOK N∧(0≤e0∧e0≤11)∧TNotes 83 (fun t=>#[.pointer (some ⟨t,0,none⟩),.int .i64 g]) T T' N e0:=by
 by_cases hg:1≤g∧g≤1000
 ·by_cases hn:T.n=0
  ·exact ⟨T,[],0,h,NotesOK.nil,by decide,TNotes.of_none fun w t f hT=>ttick_nil w (hT.way0 hn).1 g hg⟩
  ·rcases room_cases h hg with ok | ⟨J,hJ,ok,hd,hb⟩
   ·by_cases hf:1000<T.way.length+sumM T g T.n
    ·refine ⟨T,[],10,h,NotesOK.nil,by decide,TNotes.of_none fun w t f hT=>(ttick_ok w (hT.rep (i:=0) (by omega)) ok).mono ?_⟩
     rintro e w' (⟨_,h2,h3⟩ | ⟨h1,_⟩)
     ·exact ⟨h2,h3⟩
     ·omega
    ·obtain ⟨o1,o2⟩:=h.tick ok (by omega)
     refine ⟨_,_,0,o1,o2,by decide,fun w t f hT=>(ttick_ok w (hT.rep (i:=0) (by omega)) ok).mono ?_⟩
     rintro e w' (⟨h1,_⟩ | ⟨_,A',c',f',h2,h3,h4,h5,h6⟩)
     ·exact absurd h1 hf
     ·exact ⟨A',c',f',h2,noteRow_own h3 rfl,.inl ⟨by show 1≤T.n;omega,h4⟩,h5,h6⟩
   ·exact ⟨T,[],2,h,NotesOK.nil,by decide,TNotes.of_none fun w t f hT=>ttick_large w (hT.rep hJ) h.n hJ ok (h.tn J hJ) hd hb⟩
 ·exact ⟨T,[],1,h,NotesOK.nil,by decide,TNotes.of_none fun w t f hT=>ttick_arg w g (by omega)⟩
theorem lose_all (h:TownOK T) (i:Int) (hi:0≤i):∃ T' e0,TownOK T'∧(0≤e0∧e0≤11)∧TErr 87 (fun t=>#[.pointer (some ⟨t,0,none⟩),.int .i64 i]) T T' e0:=by
 have hl:=h.len
 obtain ⟨k,rfl⟩:∃ k:Nat,i=k:=⟨i.toNat,by omega⟩
 by_cases hk:k<T.way.length
 ·refine ⟨_,0,h.lose k,by decide,fun w t f hT=>?_⟩
  rcases hT with ⟨h1,hT⟩ | ⟨_,h2,_⟩
  ·refine (tlose_ok w hT hk hl).mono ?_
   rintro e w' ⟨rfl,⟨f',h2,h3⟩,h4⟩
   exact ⟨f',rfl,.inl ⟨h1,h2⟩,fun x hx=>.inl (h3 x hx),h4⟩
  ·rw [h2] at hk;simp at hk
 ·exact ⟨T,4,h,by decide,TErr.of_none fun w t f hT=>tlose_err w hT.tlen k hi (by omega) (by omega)⟩
theorem stop_all (h:TownOK T) (i:Int) (hi:0≤i):∃ T' e0,TownOK T'∧(0≤e0∧e0≤11)∧TErr 89 (fun t=>#[.pointer (some ⟨t,0,none⟩),.int .i64 i]) T T' e0:=by
 have hn:=h.n
 obtain ⟨k,rfl⟩:∃ k:Nat,i=k:=⟨i.toNat,by omega⟩
 by_cases hk:k<T.n
 ·cases hd:T.dead k with
  | false=>
   refine ⟨_,0,h.stop k,by decide,fun w t f hT=>?_⟩
   refine (tstop_ok w (hT.rep hk) hk hd).mono ?_
   rintro e w' ⟨rfl,h2,h3⟩
   exact ⟨f,rfl,.inl ⟨by show 1≤T.n;omega,h2⟩,fun x hx=>.inl hx,h3⟩
  | true=>exact ⟨T,4,h,by decide,TErr.of_none fun w t f hT=>tstop_dead w (hT.rep hk) hk hd (by omega)⟩
 ·exact ⟨T,4,h,by decide,TErr.of_none fun w t f hT=>tstop_err w hT.tlen k hi (by omega) (by omega)⟩
theorem level_all (h:TownOK T) (i:Int) (hi:0≤i) (id:ByteArray):∃ x e0,(-9223372036854775808≤x∧x≤9223372036854775807)∧(0≤e0∧e0≤11)∧TNum 91 (fun t=>#[.pointer (some ⟨t,0,none⟩),.int .i64 i,.string id]) T x e0:=by
 have hn:=h.n
 obtain ⟨k,rfl⟩:∃ k:Nat,i=k:=⟨i.toNat,by omega⟩
 by_cases hk:k<T.n
 ·cases hd:T.dead k with
  | false=>
   have hb:=lev_bd (h.tn k hk).ok id
   exact ⟨levN (T.nd k) id,(if has (T.nd k).peers id then 0 else 4),by omega,by split <;> decide,fun w t f hT=>tlevel_ok w id (hT.rep hk) hk hd (h.tn k hk).ok _ _ rfl rfl⟩
  | true=>exact ⟨0,4,by decide,by decide,fun w t f hT=>tlevel_dead w (hT.rep hk) id hk hd (by omega)⟩
 ·exact ⟨0,4,by decide,by decide,fun w t f hT=>tlevel_err w hT.tlen k id hi (by omega) (by omega)⟩
theorem bring_all (h:TownOK T) (i u:Int) (hi:0≤i) (hu:0≤u):∃ T' N e0,TownOK T'∧NotesOK N∧(0≤e0∧e0≤11)∧TNotes 85 (fun t=>#[.pointer (some ⟨t,0,none⟩),.int .i64 i,.int .i64 u]) T T' N e0:=by
 have hn:=h.n
 have hl:=h.len
 obtain ⟨k,rfl⟩:∃ k:Nat,i=k:=⟨i.toNat,by omega⟩
 obtain ⟨v,rfl⟩:∃ k:Nat,u=k:=⟨u.toNat,by omega⟩
 by_cases hk:k<T.way.length
 ·by_cases hv:v<T.n
  ·cases hd:T.dead v with
   | false=>
    obtain ⟨id,q,h1,h2,h3⟩:=h.text hk
    have tn:=h.tn v hv
    have so:=h.subs v hv
    cases hh:has (T.nd v).peers id with
    | true=>
     refine ⟨_,(hearF (T.nd v) id q).2,(if newB (T.nd v) id q=true then 0 else 5),h.node (u:=v) (tn.hear h1 h2) (hear_subs so),hear_notes so tn.ok.subs,by split <;> decide,fun w t f hT=>?_⟩
     refine (tbring_row w (hT.rep hv) hk hv hd tn.ok h1 h2 h3 hh).mono ?_
     rintro e w' ⟨A',c',m,f',a1,a2,a3,a4,a5⟩
     exact ⟨A',c',f',a1,noteRow_own a2 rfl,.inl ⟨by show 1≤T.n;omega,a3⟩,a4,a5⟩
    | false=>
     refine ⟨_,[],4,h.node (u:=v) (tn.hear h1 h2) (hear_subs so),NotesOK.nil,by decide,fun w t f hT=>?_⟩
     refine (tbring_self w (hT.rep hv) hk hv hd tn.ok h1 h2 hh h3).mono ?_
     rintro e w' ⟨rfl,⟨f',a3,a4⟩,a5⟩
     exact ⟨none,0,f',rfl,noteRow_nil _ _,.inl ⟨by show 1≤T.n;omega,a3⟩,a4,a5⟩
   | true=>exact ⟨T,[],4,h,NotesOK.nil,by decide,TNotes.of_none fun w t f hT=>tbring_dead w (hT.rep hv) k hi (by omega) (by omega) hv hd (by omega)⟩
  ·exact ⟨T,[],4,h,NotesOK.nil,by decide,TNotes.of_none fun w t f hT=>tbring_err2 w hT.tlen k v hi (by omega) (by omega) hu (by omega) (by omega)⟩
 ·exact ⟨T,[],4,h,NotesOK.nil,by decide,TNotes.of_none fun w t f hT=>tbring_err1 w hT.tlen k v hi (by omega) (by omega)⟩
theorem tjoin_arg {i:Nat} (w:World) (id:ByteArray) (th:Int) (h:TRep w t T f) (hi:i<T.n) (hd:T.dead i=false) (ht:th<1∨60<th) :
  Calls Tryz.prog 93 #[.pointer (some ⟨t,0,none⟩),.int .i64 i,.string id,.int .i64 th] w fun e w'=>e=.returned (.tuple #[.slice none 0 0,.int .i64 1])∧Below w.heap.size w w':=by
 obtain ⟨c,ga,gn,gd,ca,cn,cd,wv,bs,h⟩:=h
 obtain ⟨_,k1,k2,_,_⟩:=h.cells
 obtain ⟨_,p1,p2,nr,tl,nl,dl,_⟩:=h.parts hi
 rw [hd] at p2
 have HJ:=Lib.hid (fun w'=>njoin_arg (bs i) id th w' ht)
 obtain ⟨n,hn⟩:∃ n,T.n=n:=⟨_,rfl⟩
 rw [hn] at k1 k2 hi
 have i0:¬ (i:Int)<0:=by omega
 have i1:(i:Int)<n:=by omega
 have i2:decide ((n:Int)≤i)=false:=by simp;omega
 clear h nr hd hn ht
 go_enter Tryz.func93,Tryz.ntmps93
 go_wp2_with fail
 refine (HJ.out _).mono ?_
 rintro e w6 ⟨rfl,hb6⟩
 go_wp2_with fail
 refine bodyPost_ret (v:=.tuple #[.slice none 0 0,.int .i64 1]) (by simp [results,Tryz.results93,go_sem]) rfl ?_
 exact ⟨rfl,hb6⟩
theorem join_all (h:TownOK T) (i:Int) (hi:0≤i) (id:ByteArray) (th:Int):∃ T' N e0,TownOK T'∧NotesOK N∧(0≤e0∧e0≤11)∧TNotes 93 (fun t=>#[.pointer (some ⟨t,0,none⟩),.int .i64 i,.string id,.int .i64 th]) T T' N e0:=by
 have hn:=h.n
 obtain ⟨k,rfl⟩:∃ k:Nat,i=k:=⟨i.toNat,by omega⟩
 by_cases hk:k<T.n
 ·cases hd:T.dead k with
  | false=>
   by_cases ht:1≤th∧th≤60
   ·obtain ⟨o1,o2,o3⟩:=join_keeps (id:=id) (h.tn k hk) (h.subs k hk) ht
    have hb:=joinE_bd (T.nd k) id th
    refine ⟨_,_,joinE (T.nd k) id th,h.node (u:=k) o1 o2,o3,by omega,fun w t f hT=>?_⟩
    refine (tjoin_row w id th (hT.rep hk) hk hd (h.tn k hk).ok ht).mono ?_
    rintro e w' ⟨A',c',m,f',a1,a2,a3,a4,a5⟩
    exact ⟨A',c',f',a1,noteRow_own a2 rfl,.inl ⟨by show 1≤T.n;omega,a3⟩,a4,a5⟩
   ·exact ⟨T,[],1,h,NotesOK.nil,by decide,TNotes.of_none fun w t f hT=>tjoin_arg w id th (hT.rep hk) hk hd (by omega)⟩
  | true=>exact ⟨T,[],4,h,NotesOK.nil,by decide,TNotes.of_none fun w t f hT=>tjoin_dead w (hT.rep hk) id th hk hd (by omega)⟩
 ·exact ⟨T,[],4,h,NotesOK.nil,by decide,TNotes.of_none fun w t f hT=>tjoin_err w hT.tlen k id th hi (by omega) (by omega)⟩
end Go.Proofs.YtnaebigoknfndaaGreatDoor
namespace Go.Proofs.YtnaebigoknfndaaGreatDoor
open Go Go.RowKit
def fltV (e:Int):Value:=.iface 56 (.agg #[.int .i64 e])
def Fault (e:Int):Ending:=.panicked [{ v:=fltV e,recovered:=false }]
def itoB (n:Int):ByteArray:=⟨(Lib.itoa n).toArray⟩
def numW (s:ByteArray):Option Int:=
 match Lib.atoiAll s.data.toList with
 | .ok n=>if 0≤n∧s.size≤12∧s=itoB n then some n else none
 | _=>none
structure GOK (w:World):Prop where
 low:10≤w.heap.size
 mlen:∃ m,w.cell? ⟨0,0,none⟩=some (.int .i64 m)
 tab:Lib.TabIs Tryz.prog w "internal/strconv.uint64pow10" .u64 Lib.pow10Tab
 syn:∃ ev,w.cell? ⟨8,0,none⟩=some ev∧(ev=.nilIface∨∃ te pe,ev=.iface te pe)
 rng:∃ ev,w.cell? ⟨9,0,none⟩=some ev∧(ev=.nilIface∨∃ te pe,ev=.iface te pe)
theorem globPow:Tryz.prog.globalNamed "internal/strconv.uint64pow10" = some 5:=by kernel_rfl
theorem GOK.same {w w':World} (h:GOK w) (hl:w.heap.size≤w'.heap.size) (hs:∀ x,x<10→w'.heap[x]? = w.heap[x]?):GOK w':=by
 obtain ⟨h0,⟨m,h1⟩,h2,⟨e1,h3,h4⟩,⟨e2,h5,h6⟩⟩:=h
 refine ⟨by omega,⟨m,(World.cell?_of_block (a:=⟨_,0,none⟩) (hs _ (by decide))).trans h1⟩,?_,⟨e1,(World.cell?_of_block (a:=⟨_,0,none⟩) (hs _ (by decide))).trans h3,h4⟩,⟨e2,(World.cell?_of_block (a:=⟨_,0,none⟩) (hs _ (by decide))).trans h5,h6⟩⟩
 unfold Lib.TabIs World.var? at h2 ⊢
 rw [globPow,Option.bind_some] at h2 ⊢
 rw [hs _ (by decide)]
 exact h2
theorem GOK.below {w w':World} {B:Nat} (h:GOK w) (hb:Below B w w') (hB:10≤B):GOK w':=h.same hb.size fun x hx=>hb.block x (by omega)
theorem GOK.grown {w w':World} {b:Nat} (h:GOK w) (hg:w.grownBy w' (some b)) (hb:10≤b):GOK w':=h.same hg.size fun x hx=>hg.block x (by have:=h.low;omega) (fun e=>by injection e with e;omega)
theorem itoa_any (n:Int) (h0 : -9223372036854775808≤n) (h1:n≤9223372036854775807) (w:World) (g:GOK w) :
  Calls Tryz.prog 22 #[.int .i64 n] w fun e w'=>e=.returned (.string (itoB n))∧Below w.heap.size w w':=by
 refine (Tryz.strconv_Itoa n h0 h1 w g.tab).mono ?_
 rintro e w' ⟨rfl,k,os,rfl⟩
 exact ⟨rfl,Lib.below_grow _ w (Nat.le_refl _) k os⟩
theorem toListNe {s t:ByteArray} (h:s≠t):(s.toList==t.toList)=false∧¬ s.toList=t.toList:=by
 have:¬ s.toList=t.toList:=fun e=>h (by
  rw [ByteArray.toList_eq,ByteArray.toList_eq] at e
  exact ByteArray.ext (Array.toList_inj.1 e))
 exact ⟨by simpa using this,this⟩
theorem bad_ok (e0:Int) (w:World):Calls Tryz.prog 50 #[.int .i64 e0] w fun e w'=>e=Fault e0∧Below w.heap.size w w':=by
 go_enter Tryz.func50,Tryz.ntmps50
 go_wp2_with fail
 exact ⟨rfl,rfl,Below.refl _ _⟩
theorem must_ok (w:World):Calls Tryz.prog 51 #[.int .i64 0] w fun e w'=>e=.returned (.tuple #[])∧Below w.heap.size w w':=by
 go_enter Tryz.func51,Tryz.ntmps51
 go_wp2_with fail
 go_end0
 exact ⟨rfl,Below.refl _ _⟩
theorem must_no (e0:Int) (w:World) (h:e0≠0):Calls Tryz.prog 51 #[.int .i64 e0] w fun e w'=>e=Fault e0∧Below w.heap.size w w':=by
 have h1:¬ e0=0:=h
 go_enter Tryz.func51,Tryz.ntmps51
 go_wp2_with fail
 refine (bad_ok e0 w).mono ?_
 rintro e w' ⟨rfl,hb⟩
 exact ⟨rfl,rfl,hb⟩
theorem atoi_bd {l:List UInt8} {n:Int} (h:Lib.atoiAll l=.ok n) : -9223372036854775808≤n∧n≤9223372036854775807:=by
 unfold Lib.atoiAll at h
 split at h
 ·cases h
 ·dsimp only at h
  split at h
  ·cases h
  ·cases h
  ·split at h
   ·cases h
   ·split at h
    ·cases h
    ·injection h with h
     split at h <;> omega
theorem number_any (s:ByteArray) (hs:s.size≤1048576) (w:World) (g:GOK w) :
  Calls Tryz.prog 108 #[.string s] w fun e w'=>e=(match numW s with | some x=>.returned (.int .i64 x) | none=>Fault 11)∧Below w.heap.size w w':=by
 obtain ⟨sv,hsv,hsi⟩:=g.syn
 obtain ⟨rv,hrv,hri⟩:=g.rng
 have HB:=Lib.hid (fun w'=>bad_ok 11 w')
 have H10:=Lib.hid g.low
 have lim:s.size≤281474976710656:=by omega
 cases hat:Lib.atoiAll s.data.toList with
 | range=>
  have hnum:numW s=none:=by unfold numW;rw [hat]
  rw [hnum]
  have HA:=Lib.hid (Tryz.strconv_Atoi_range s lim hat rv w hrv hri)
  clear hat hsv hrv hsi hri g
  go_enter Tryz.func108,Tryz.ntmps108
  go_wp2_with fail
  refine HA.out.mono ?_
  rintro e w1 ⟨N,rfl,_,_,hb1⟩
  go_wp2_with fail
  refine (HB.out _).mono ?_
  rintro e w2 ⟨rfl,hb2⟩
  exact ⟨rfl,rfl,hb1.trans (hb2.mono hb1.size)⟩
 | ok n=>
  have hbd:=atoi_bd hat
  have HA:=Lib.hid (Tryz.strconv_Atoi_ok s (by omega) n hat w)
  have HI:=Lib.hid (fun w' (h:Below w.heap.size w w')=>itoa_any n hbd.1 hbd.2 w' (g.below h H10.out))
  have hnum:numW s=if 0≤n∧s.size≤12∧s=itoB n then some n else none:=by unfold numW;rw [hat]
  have bw:∀ w',(w'=w∨∃ t,w'=Lib.bytesWorld w 5 t)→Below w.heap.size w w':=by
   rintro w' (rfl | ⟨t,rfl⟩)
   ·exact Below.refl _ _
   ·exact Lib.bytesWorld_below w _ t
  have HW:=Lib.hid bw
  clear hat hsv hrv hsi hri g hbd bw
  by_cases h0:n<0
  ·rw [hnum,if_neg (by omega)]
   clear hnum
   go_enter Tryz.func108,Tryz.ntmps108
   go_wp2_with fail
   refine HA.out.mono ?_
   rintro e w1 ⟨rfl,hw1⟩
   have hb1:=HW.out _ hw1
   clear hw1
   go_wp2_with fail
   refine (HB.out _).mono ?_
   rintro e w2 ⟨rfl,hb2⟩
   exact ⟨rfl,rfl,hb1.trans (hb2.mono hb1.size)⟩
  ·by_cases h12:12<s.size
   ·rw [hnum,if_neg (by omega)]
    clear hnum
    have h12':(12:Int)<s.size:=by omega
    go_enter Tryz.func108,Tryz.ntmps108
    go_wp2_with fail
    refine HA.out.mono ?_
    rintro e w1 ⟨rfl,hw1⟩
    have hb1:=HW.out _ hw1
    clear hw1
    go_wp2_with fail
    refine (HB.out _).mono ?_
    rintro e w2 ⟨rfl,hb2⟩
    exact ⟨rfl,rfl,hb1.trans (hb2.mono hb1.size)⟩
   ·have h12':¬ (12:Int)<s.size:=by omega
    by_cases hst:s=itoB n
    ·rw [hnum,if_pos ⟨by omega,by omega,hst⟩]
     clear hnum
     have hd:(s.toList==(itoB n).toList)=true:=by rw [← hst];simp
     have d1:decide (n<0)=false:=by simpa using h0
     have d2:decide ((12:Int)<s.size)=false:=by simpa using h12'
     clear hst
     go_enter Tryz.func108,Tryz.ntmps108
     go_wp2_with fail
     refine HA.out.mono ?_
     rintro e w1 ⟨rfl,hw1⟩
     have hb1:=HW.out _ hw1
     clear hw1
     go_wp2_with fail
     refine (HI.out _ hb1).mono ?_
     rintro e w2 ⟨rfl,hb2⟩
     go_wp2_with fail
     refine bodyPost_ret (v:=.int .i64 n) (by simp [results,Tryz.results108,go_sem]) rfl ?_
     exact ⟨rfl,hb1.trans (hb2.mono hb1.size)⟩
    ·rw [hnum,if_neg (by simp [hst])]
     clear hnum
     have hd:(s.toList==(itoB n).toList)=false:=(toListNe hst).1
     have d1:decide (n<0)=false:=by simpa using h0
     have d2:decide ((12:Int)<s.size)=false:=by simpa using h12'
     clear hst
     go_enter Tryz.func108,Tryz.ntmps108
     go_wp2_with fail
     refine HA.out.mono ?_
     rintro e w1 ⟨rfl,hw1⟩
     have hb1:=HW.out _ hw1
     clear hw1
     go_wp2_with fail
     refine (HI.out _ hb1).mono ?_
     rintro e w2 ⟨rfl,hb2⟩
     go_wp2_with fail
     refine (HB.out _).mono ?_
     rintro e w3 ⟨rfl,hb3⟩
     have hb12:=hb1.trans (hb2.mono hb1.size)
     exact ⟨rfl,rfl,hb12.trans (hb3.mono hb12.size)⟩
 | _=>
  have hnum:numW s=none:=by unfold numW;rw [hat]
  rw [hnum]
  have HA:=Lib.hid (Tryz.strconv_Atoi_syntax s lim hat sv w hsv hsi)
  clear hat hsv hrv hsi hri g
  go_enter Tryz.func108,Tryz.ntmps108
  go_wp2_with fail
  refine HA.out.mono ?_
  rintro e w1 ⟨N,rfl,_,_,hb1⟩
  go_wp2_with fail
  refine (HB.out _).mono ?_
  rintro e w2 ⟨rfl,hb2⟩
  exact ⟨rfl,rfl,hb1.trans (hb2.mono hb1.size)⟩
end Go.Proofs.YtnaebigoknfndaaGreatDoor
namespace Go.Proofs.YtnaebigoknfndaaGreatDoor
def KnR (u y1 t q r:Int):Prop:=t≤q∧0≤t∧q * y1+r=u∧0≤r∧0≤q∧q≤4294967297
section
variable {u d y y1 y0 t:Int}
theorem kn_digit (hy:y1 * 4294967296+y0=y) (h1:2147483648≤y1) (h0:0≤y0) (hu:0≤u∧u<y) (hd:0≤d∧d<4294967296) (ht:(u * 4294967296+d) / y=t) :
  0≤t∧t<4294967296∧t * y≤u * 4294967296+d∧u * 4294967296+d<t * y+y:=by
 have py:0<y:=by omega
 have a:=Int.emod_add_mul_ediv (u * 4294967296+d) y
 have b:=Int.emod_nonneg (u * 4294967296+d) (show y≠0 by omega)
 have c:=Int.emod_lt_of_pos (u * 4294967296+d) py
 rw [ht,Int.mul_comm y t] at a
 have e:0≤t:=by rw [← ht];exact Int.ediv_nonneg (by omega) (by omega)
 have f:t<4294967296:=by rw [← ht];exact Int.ediv_lt_of_lt_mul py (by omega)
 refine ⟨e,f,by omega,by omega⟩
theorem kn_start (hy:y1 * 4294967296+y0=y) (h1:2147483648≤y1∧y1<4294967296) (h0:0≤y0∧y0<4294967296) (hu:0≤u∧u<y) (hd:0≤d∧d<4294967296) (ht:(u * 4294967296+d) / y=t) :
  KnR u y1 t (u / y1) (u - u / y1 * y1)∧u - u / y1 * y1<4294967296:=by
 obtain ⟨t0,t1,t2,t3⟩:=kn_digit hy h1.1 h0.1 hu hd ht
 have a:=Int.emod_add_mul_ediv u y1
 have b:=Int.emod_nonneg u (show y1≠0 by omega)
 have c:=Int.emod_lt_of_pos u (show 0<y1 by omega)
 rw [Int.mul_comm] at a
 have e:0≤u / y1:=Int.ediv_nonneg hu.1 (by omega)
 have k:t * y1≤u:=by
  have e1:t * y=t * y1 * 4294967296+t * y0:=by rw [← hy];grind
  have e2:0≤t * y0:=Int.mul_nonneg t0 h0.1
  omega
 have f:t≤u / y1:=Int.le_ediv_of_mul_le (by omega) k
 have g:u / y1≤4294967297:=by
  have:u / y1<4294967298:=Int.ediv_lt_of_lt_mul (by omega) (by omega)
  omega
 exact ⟨⟨f,t0,by omega,by omega,e,g⟩,by omega⟩
theorem kn_more {q r:Int} (hy:y1 * 4294967296+y0=y) (h1:2147483648≤y1) (h0:0≤y0) (hu:0≤u∧u<y) (hd:0≤d∧d<4294967296) (ht:(u * 4294967296+d) / y=t)
  (h:KnR u y1 t q r) (hm:4294967296≤q∨4294967296 * r+d<q * y0):KnR u y1 t (q - 1) (r+y1):=by
 obtain ⟨t0,t1,t2,t3⟩:=kn_digit hy h1 h0 hu hd ht
 obtain ⟨a,_,b,c,e,f⟩:=h
 have k:t<q:=by
  rcases hm with hm | hm
  ·omega
  ·rcases Int.lt_or_le t q with g | g
   ·exact g
   ·obtain rfl:q=t:=by omega
    have e1:q * y=q * y1 * 4294967296+q * y0:=by rw [← hy];grind
    omega
 refine ⟨by omega,t0,?_,by omega,by omega,by omega⟩
 rw [Int.sub_mul];omega
theorem kn_exit {q r:Int} (hy:y1 * 4294967296+y0=y) (h1:2147483648≤y1) (h0:0≤y0) (hu:0≤u∧u<y) (hd:0≤d∧d<4294967296) (ht:(u * 4294967296+d) / y=t)
  (h:KnR u y1 t q r) (hm:q * y0≤4294967296 * r+d):q=t:=by
 obtain ⟨t0,t1,t2,t3⟩:=kn_digit hy h1 h0 hu hd ht
 obtain ⟨a,_,b,c,e,f⟩:=h
 have e1:q * y=q * y1 * 4294967296+q * y0:=by rw [← hy];grind
 have k:q≤t:=by
  rw [← ht]
  exact Int.le_ediv_of_mul_le (by omega) (by omega)
 omega
theorem kn_break {q r:Int} (hy:y1 * 4294967296+y0=y) (h1:2147483648≤y1) (h0:0≤y0∧y0<4294967296) (hu:0≤u∧u<y) (hd:0≤d∧d<4294967296) (ht:(u * 4294967296+d) / y=t)
  (h:KnR u y1 t q r) (hq:q≤4294967296) (hr:4294967296≤r):q=t:=by
 refine kn_exit hy h1 h0.1 hu hd ht h ?_
 have:q * y0≤4294967296 * y0:=Int.mul_le_mul_of_nonneg_right hq h0.1
 omega
end
theorem kn_two {N y u d1 d0 a b v:Int} (py:0<y) (hN:N=u * 18446744073709551616+d1 * 4294967296+d0) (ha:(u * 4294967296+d1) / y=a) (hv:u * 4294967296+d1 - a * y=v) (hb:(v * 4294967296+d0) / y=b) :
  N / y=a * 4294967296+b∧N % y=v * 4294967296+d0 - b * y:=by
 have m:=Int.emod_add_mul_ediv (v * 4294967296+d0) y
 have c:=Int.emod_nonneg (v * 4294967296+d0) (show y≠0 by omega)
 have e:=Int.emod_lt_of_pos (v * 4294967296+d0) py
 rw [hb] at m
 obtain ⟨r,hr⟩:∃ r,(v * 4294967296+d0) % y=r:=⟨_,rfl⟩
 rw [hr] at m c e
 have k:N=r+y * (a * 4294967296+b):=by
  rw [hN,Int.mul_add]
  have:y * (a * 4294967296)=a * y * 4294967296:=by grind
  omega
 have q1:N / y=a * 4294967296+b:=by
  rw [k,Int.add_mul_ediv_left _ _ (by omega),Int.ediv_eq_zero_of_lt c e];omega
 have q2:N % y=r:=by
  rw [k,Int.add_mul_emod_self_left,Int.emod_eq_of_lt c e]
 refine ⟨q1,?_⟩
 rw [q2,Int.mul_comm b y];omega
theorem kn_scale {N y p:Int} (hp:0<p):N * p / (y * p)=N / y∧N * p % (y * p) / p=N % y:=by
 have a:=Int.mul_ediv_mul_of_pos_left N y hp
 refine ⟨a,?_⟩
 have b:N * p % (y * p)=N % y * p:=by
  rw [Int.emod_def,a,Int.emod_def,Int.sub_mul];grind
 rw [b,Int.mul_ediv_cancel _ (by omega)]
end Go.Proofs.YtnaebigoknfndaaGreatDoor
namespace Go.Proofs.YtnaebigoknfndaaGreatDoor
open Go.RowKit
theorem div64_zero (l y q r:Int) (ul:U64 l) (uy:U64 y) (hy:0<y) (hq:l / y=q) (hr:l % y=r) (w:World) :
  Calls Tryz.prog 104 #[.int .u64 0,.int .u64 l,.int .u64 y] w fun e w'=>e=.returned (.tuple #[.int .u64 q,.int .u64 r])∧Below w.heap.size w w':=by
 have q1:0≤l / y:=Int.ediv_nonneg ul.1 (by omega)
 have q2:l / y≤l:=Int.ediv_le_self _ ul.1
 have q3:=Int.emod_nonneg l (show y≠0 by omega)
 have q4:=Int.emod_lt_of_pos l hy
 unfold U64 at ul uy
 rw [hq] at q1 q2
 rw [hr] at q3 q4
 have e1:l.tdiv y=q:=by rw [Int.tdiv_eq_ediv_of_nonneg ul.1,hq]
 have e2:l.tmod y=r:=by rw [Int.tmod_eq_emod_of_nonneg ul.1,hr]
 have e3:IntKind.u64.wrap q=q:=by rw [IntKind.wrap_u64];omega
 have e4:IntKind.u64.wrap r=r:=by rw [IntKind.wrap_u64];omega
 have hne:(y==0)=false:=by simp;omega
 have hn1:¬ y=0:=by omega
 have hn2:¬ y≤0:=by omega
 go_enter Tryz.func104,Tryz.ntmps104
 go_wp2_with fail
 refine wp_region_quiet_all (Ext _) (by kernel_rfl) (by kernel_rfl) (Ext.drawn _) ?_
 repeat (first | go_big_quiet_skip | go_big_quiet_step (fail) | (refine BigFrame.wpQuiet_want rfl (fun K hK=>?_);apply Exists.intro;refine ⟨fun w2 h2=>?_,?_⟩;(next=>(have g1:=Below.cells h2.below;have g2:=Below.frozens h2.below;(try simp only [World.size_alloc,World.size_setCell] at g1 g2);first | (go_simp;(fail)) | (simp [go_sem,↓IntWalk.iteOmega, *];done) | (simp [go_sem,↓IntWalk.iteOmega, *];rfl))));(go_simp;refine hK _ ?_;clear hK K))
 refine wpQuiet_nil ?_
 intro w1 h1
 have hb1:=h1.below
 clear h1
 have z1:=hb1.size
 have c1:=Below.cells hb1
 have f1:=Below.frozens hb1
 try simp only [World.size_alloc,World.size_setCell,World.size_drew] at z1 c1 f1
 go_wp2_with fail
 go_ret2
 exact ⟨rfl,(by repeat (first | (with_reducible exact Below.refl _ _) | (with_reducible refine bAl ?_ _) | (with_reducible refine bSc ?_ _) | (with_reducible refine Below.drew ?_) | (with_reducible refine bTm ?_ hb1)))⟩
theorem div64_run (h l y q r S Y y1 y0 u z d1 d0 a v b p:Int) (uh:0<h) (hy:h<y) (uy:y<18446744073709551616) (ul:0≤l∧l<18446744073709551616)
  (hS:64 - (Lib.bitLen y.toNat:Int)=S) (Sb:0≤S∧S≤63)
  (hY:IntKind.u64.wrap (y * 2 ^ S.toNat)=Y) (hy1:Y / 4294967296=y1) (ha0:bits .and .u64 Y 4294967295=y0)
  (hu:bits .or .u64 (IntKind.u64.wrap (h * 2 ^ S.toNat)) (l / 2 ^ (64 - S).toNat)=u)
  (hz:IntKind.u64.wrap (l * 2 ^ S.toNat)=z) (hd1:z / 4294967296=d1) (ha1:bits .and .u64 z 4294967295=d0)
  (hYY:y1 * 4294967296+y0=Y) (b1:2147483648≤y1∧y1<4294967296) (b0:0≤y0∧y0<4294967296) (ub:0≤u∧u<Y) (db1:0≤d1∧d1<4294967296) (db0:0≤d0∧d0<4294967296)
  (hzz:0≤z∧z<18446744073709551616)
  (ha:(u * 4294967296+d1) / Y=a) (hv:u * 4294967296+d1 - a * Y=v) (hb:(v * 4294967296+d0) / Y=b) (hp:v * 4294967296+d0 - b * Y=p)
  (hq:a * 4294967296+b=q) (hr:p / 2 ^ S.toNat=r) (w:World) :
  Calls Tryz.prog 104 #[.int .u64 h,.int .u64 l,.int .u64 y] w fun e w'=>e=.returned (.tuple #[.int .u64 q,.int .u64 r])∧w=w':=by
 have Yb:Y<18446744073709551616:=by omega
 obtain ⟨ab0,ab1,ab2,ab3⟩:=kn_digit hYY b1.1 b0.1 ub db1 ha
 have vb:0≤v∧v<Y:=by omega
 obtain ⟨bb0,bb1,bb2,bb3⟩:=kn_digit hYY b1.1 b0.1 vb db0 hb
 have pb:0≤p∧p<Y:=by omega
 obtain ⟨s1,s2⟩:=kn_start hYY b1 b0 ub db1 ha
 obtain ⟨t1,t2⟩:=kn_start hYY b1 b0 vb db0 hb
 obtain ⟨g,hg⟩:∃ g,u / y1=g:=⟨_,rfl⟩
 obtain ⟨k,hk⟩:∃ k,v / y1=k:=⟨_,rfl⟩
 rw [hg] at s1 s2
 rw [hk] at t1 t2
 have gb:0≤g∧g≤4294967297∧0≤g * y1∧g * y1≤u:=by obtain ⟨_,_,c1,c2,c3,c4⟩:=s1;exact ⟨c3,c4,Int.mul_nonneg c3 (by omega),by omega⟩
 have kb:0≤k∧k≤4294967297∧0≤k * y1∧k * y1≤v:=by obtain ⟨_,_,c1,c2,c3,c4⟩:=t1;exact ⟨c3,c4,Int.mul_nonneg c3 (by omega),by omega⟩
 have ev:IntKind.u64.wrap (IntKind.u64.wrap (IntKind.u64.wrap (u * 4294967296)+d1) - IntKind.u64.wrap (a * Y))=v:=by
  simp only [IntKind.wrap_u64];omega
 have ep:IntKind.u64.wrap (IntKind.u64.wrap (IntKind.u64.wrap (v * 4294967296)+d0) - IntKind.u64.wrap (b * Y))=p:=by
  simp only [IntKind.wrap_u64];omega
 have M1:=Lib.hid (fun q r=>kn_more (q:=q) (r:=r) hYY b1.1 b0.1 ub db1 ha)
 have M2:=Lib.hid (fun q r=>kn_more (q:=q) (r:=r) hYY b1.1 b0.1 vb db0 hb)
 have X1:=Lib.hid (fun q r=>kn_exit (q:=q) (r:=r) hYY b1.1 b0.1 ub db1 ha)
 have X2:=Lib.hid (fun q r=>kn_exit (q:=q) (r:=r) hYY b1.1 b0.1 vb db0 hb)
 have B1:=Lib.hid (fun q r=>kn_break (q:=q) (r:=r) hYY b1.1 b0 ub db1 ha)
 have B2:=Lib.hid (fun q r=>kn_break (q:=q) (r:=r) hYY b1.1 b0 vb db0 hb)
 have HS:=Lib.hid hS
 have S1:=Lib.hid s1
 have T1:=Lib.hid t1
 have hne:(y==0)=false:=by simp;omega
 have hn1:¬ y=0:=by omega
 have hn2:¬ y≤h:=by omega
 have hn3:¬ h=0:=by omega
 have EV:=Lib.hid ev
 have EP:=Lib.hid ep
 have HK:=Lib.hid hk
 have HQ:=Lib.hid hq
 have HR:=Lib.hid hr
 clear hS ha hv hb hp hYY s1 t1 ev ep hk ab2 ab3 bb2 bb3 hq hr
 go_enter Tryz.func104,Tryz.ntmps104
 go_wp2_with fail
 refine (Tryz.bits_LeadingZeros64 _ _ (by omega) (by omega)).mono ?_
 rintro e w' ⟨rfl,rfl⟩
 rw [HS.out]
 go_wp2_with fail
 go_loop [15,16] (fun q r=>∃ qh rh:Int,q=.int .u64 qh∧r=.int .u64 rh∧KnR u y1 a qh rh∧rh<4294967296) (fun q _=>(intOf q).toNat)
 case atStart=>rw [hg];exact ⟨_,_,rfl,rfl,S1.out,s2⟩
 case round=>
  obtain ⟨qh,rh,rfl,rfl,hR,hlt⟩:=hrel
  have mr:=M1.out qh rh hR
  have xr:=X1.out qh rh hR
  have br:=B1.out (qh - 1) (rh+y1)
  obtain ⟨c0,c1,c2,c3,c4,c5⟩:=hR
  have p1:=mul_bd (a:=qh) (b:=y0) (A:=4294967297) (B:=4294967295) (by omega) (by omega)
  have MR:=Lib.hid mr
  have XR:=Lib.hid xr
  have BR:=Lib.hid br
  clear mr xr br
  have cs:(4294967296≤qh∨(¬ 4294967296≤qh∧4294967296 * rh+d1<qh * y0))∨(¬ 4294967296≤qh∧¬ 4294967296 * rh+d1<qh * y0):=by omega
  rcases cs with cs | ⟨n1,n2⟩
  ·have nx:=MR.out (by omega)
   have q1:1≤qh:=by obtain ⟨e1,e2,_⟩:=nx;omega
   by_cases bk:4294967296≤rh+y1
   ·have e:=BR.out nx (by omega) bk
    have Nx:=Lib.hid nx
    have EE:=Lib.hid e
    clear nx e
    have e:=EE.out
    have ev:=EV.out
    have hk:=HK.out
    rcases cs with n1 | ⟨n1,n2⟩
    all_goals
     go_wp2_with fail
     go_loop [18,16] (fun q r=>∃ ql rl:Int,q=.int .u64 ql∧r=.int .u64 rl∧KnR v y1 b ql rl∧rl<4294967296) (fun q _=>(intOf q).toNat)
     case atStart=>exact ⟨_,_,rfl,rfl,T1.out,t2⟩
     case round=>
      obtain ⟨ql,rl,rfl,rfl,hL,hltl⟩:=hrel
      have mr:=M2.out ql rl hL
      have xr:=X2.out ql rl hL
      have br:=B2.out (ql - 1) (rl+y1)
      obtain ⟨f0,f1,f2,f3,f4,f5⟩:=hL
      have p2:=mul_bd (a:=ql) (b:=y0) (A:=4294967297) (B:=4294967295) (by omega) (by omega)
      have MR2:=Lib.hid mr
      have XR2:=Lib.hid xr
      have BR2:=Lib.hid br
      clear mr xr br
      have cs2:(4294967296≤ql∨(¬ 4294967296≤ql∧4294967296 * rl+d0<ql * y0))∨(¬ 4294967296≤ql∧¬ 4294967296 * rl+d0<ql * y0):=by omega
      rcases cs2 with cs2 | ⟨m1,m2⟩
      ·have nx:=MR2.out (by omega)
       have q1:1≤ql:=by obtain ⟨e1,e2,_⟩:=nx;omega
       by_cases bk2:4294967296≤rl+y1
       ·have e:=BR2.out nx (by omega) bk2
        clear nx
        have ep:=EP.out
        have hr:=HR.out
        have hq:=HQ.out
        rcases cs2 with m1 | ⟨m1,m2⟩
        all_goals
         go_wp2_with fail
         go_ret2
         exact ⟨rfl,rfl⟩
       ·have Nx:=Lib.hid nx
        clear nx
        rcases cs2 with m1 | ⟨m1,m2⟩
        all_goals
         go_wp2_with fail
         go_round
         case rel=>exact ⟨_,_,rfl,rfl,Nx.out,by omega⟩
         case measure=>simp [intOf];omega
      ·have e:=XR2.out (by omega)
       subst e
       have ep:=EP.out
       have hr:=HR.out
       have hq:=HQ.out
       go_wp2_with fail
       go_ret2
       exact ⟨rfl,rfl⟩
   ·have Nx:=Lib.hid nx
    clear nx
    rcases cs with n1 | ⟨n1,n2⟩
    all_goals
     go_wp2_with fail
     go_round
     case rel=>exact ⟨_,_,rfl,rfl,Nx.out,by omega⟩
     case measure=>simp [intOf];omega
  ·have e:=XR.out (by omega)
   subst e
   have ev:=EV.out
   have hk:=HK.out
   go_wp2_with fail
   go_loop [18,16] (fun q r=>∃ ql rl:Int,q=.int .u64 ql∧r=.int .u64 rl∧KnR v y1 b ql rl∧rl<4294967296) (fun q _=>(intOf q).toNat)
   case atStart=>exact ⟨_,_,rfl,rfl,T1.out,t2⟩
   case round=>
    obtain ⟨ql,rl,rfl,rfl,hL,hltl⟩:=hrel
    have mr:=M2.out ql rl hL
    have xr:=X2.out ql rl hL
    have br:=B2.out (ql - 1) (rl+y1)
    obtain ⟨f0,f1,f2,f3,f4,f5⟩:=hL
    have p2:=mul_bd (a:=ql) (b:=y0) (A:=4294967297) (B:=4294967295) (by omega) (by omega)
    have MR2:=Lib.hid mr
    have XR2:=Lib.hid xr
    have BR2:=Lib.hid br
    clear mr xr br
    have cs2:(4294967296≤ql∨(¬ 4294967296≤ql∧4294967296 * rl+d0<ql * y0))∨(¬ 4294967296≤ql∧¬ 4294967296 * rl+d0<ql * y0):=by omega
    rcases cs2 with cs2 | ⟨m1,m2⟩
    ·have nx:=MR2.out (by omega)
     have q1:1≤ql:=by obtain ⟨e1,e2,_⟩:=nx;omega
     by_cases bk2:4294967296≤rl+y1
     ·have e:=BR2.out nx (by omega) bk2
      clear nx
      have ep:=EP.out
      have hr:=HR.out
      have hq:=HQ.out
      rcases cs2 with m1 | ⟨m1,m2⟩
      all_goals
       go_wp2_with fail
       go_ret2
       exact ⟨rfl,rfl⟩
     ·have Nx:=Lib.hid nx
      clear nx
      rcases cs2 with m1 | ⟨m1,m2⟩
      all_goals
       go_wp2_with fail
       go_round
       case rel=>exact ⟨_,_,rfl,rfl,Nx.out,by omega⟩
       case measure=>simp [intOf];omega
    ·have e:=XR2.out (by omega)
     subst e
     have ep:=EP.out
     have hr:=HR.out
     have hq:=HQ.out
     go_wp2_with fail
     go_ret2
     exact ⟨rfl,rfl⟩
theorem u64_low {x:Int} (h:U64 x):bits .and .u64 x 4294967295=x % 4294967296:=by
 obtain ⟨X,rfl⟩:=Int.eq_ofNat_of_zero_le h.1
 have hx:X<18446744073709551616:=by unfold U64 at h;omega
 have:=u64_and_nat X 4294967295 hx (by omega)
 rw [show ((4294967295:Nat):Int)=4294967295 from rfl] at this
 rw [this,show (4294967295:Nat)=2 ^ 32 - 1 from rfl,Nat.and_two_pow_sub_one_eq_mod]
 omega
theorem div64_ok (h l y q r:Int) (uh:U64 h) (ul:U64 l) (uy:U64 y) (hy:h<y) (hq:(h * 18446744073709551616+l) / y=q) (hr:(h * 18446744073709551616+l) % y=r) (w:World) :
  Calls Tryz.prog 104 #[.int .u64 h,.int .u64 l,.int .u64 y] w fun e w'=>e=.returned (.tuple #[.int .u64 q,.int .u64 r])∧Below w.heap.size w w':=by
 rcases (by unfold U64 at uh;omega:h=0∨0<h) with rfl | h0
 ·rw [show (0:Int) * 18446744073709551616+l=l by omega] at hq hr
  exact div64_zero l y q r ul uy (by omega) hq hr w
 ·obtain ⟨k,ek,lk,uk⟩:=bitLen_bounds y.toNat (by unfold U64 at uy;omega) (by unfold U64 at uh;omega)
  have hk:k≤63:=by
   rcases Nat.lt_or_ge 63 k with c | c
   ·have:2 ^ 64≤2 ^ k:=Nat.pow_le_pow_right (by omega) (by omega)
    unfold U64 at uy;omega
   ·exact c
  obtain ⟨S,hS⟩:∃ S:Int,64 - (Lib.bitLen y.toNat:Int)=S:=⟨_,rfl⟩
  have hSn:S.toNat=63 - k:=by omega
  have Sb:0≤S∧S≤63:=by omega
  have p:=p2 S.toNat
  have hN:U128 (h * 18446744073709551616+l):=by unfold U64 U128 at *;omega
  have Yl:9223372036854775808≤y * 2 ^ S.toNat∧y * 2 ^ S.toNat<18446744073709551616:=by
   have l1:(2:Int) ^ k≤y:=by rw [← pow_cast];unfold U64 at uy;omega
   have u1:y<(2:Int) ^ (k+1):=by rw [← pow_cast];unfold U64 at uy;omega
   have e1:(2:Int) ^ k * 2 ^ S.toNat=9223372036854775808:=by rw [← Int.pow_add,hSn,show k+(63 - k)=63 by omega];rfl
   have e2:(2:Int) ^ (k+1) * 2 ^ S.toNat=18446744073709551616:=by rw [← Int.pow_add,hSn,show k+1+(63 - k)=64 by omega];rfl
   have a1:=Int.mul_le_mul_of_nonneg_right l1 (Int.le_of_lt p)
   have a2:=Int.mul_lt_mul_of_pos_right u1 p
   omega
  obtain ⟨Y,eY⟩:∃ Y,y * 2 ^ S.toNat=Y:=⟨_,rfl⟩
  rw [eY] at Yl
  have uY:U64 Y:=by unfold U64;omega
  have NY:(h * 18446744073709551616+l) * 2 ^ S.toNat<Y * 18446744073709551616:=by
   have:h * 18446744073709551616+l<y * 18446744073709551616:=by unfold U64 at ul;omega
   have:=Int.mul_lt_mul_of_pos_right this p
   rw [show y * 18446744073709551616 * 2 ^ S.toNat=y * 2 ^ S.toNat * 18446744073709551616 by grind,eY] at this
   exact this
  have N0:0≤(h * 18446744073709551616+l) * 2 ^ S.toNat:=Int.mul_nonneg hN.1 (Int.le_of_lt p)
  obtain ⟨M,eM⟩:∃ M,(h * 18446744073709551616+l) * 2 ^ S.toNat=M:=⟨_,rfl⟩
  have uM:U128 M:=by rw [eM] at NY N0;unfold U128;omega
  obtain ⟨g1,g2⟩:=up_small_halves (a:=h * 18446744073709551616+l) (n:=S) hN Sb.1 (by omega)
  have hhi:hi (h * 18446744073709551616+l)=h:=by unfold hi U64 at *;omega
  have hlo:lo (h * 18446744073709551616+l)=l:=by unfold lo U64 at *;omega
  have hup:up (h * 18446744073709551616+l) S=M:=by rw [up_fits (by rw [eM];exact uM),eM]
  rw [hhi,hlo,hup] at g1
  rw [hlo,hup] at g2
  rw [eM] at NY N0
  obtain ⟨a,ea⟩:∃ a,(hi M * 4294967296+lo M / 4294967296) / Y=a:=⟨_,rfl⟩
  obtain ⟨v,ev⟩:∃ v,hi M * 4294967296+lo M / 4294967296 - a * Y=v:=⟨_,rfl⟩
  obtain ⟨b,eb⟩:∃ b,(v * 4294967296+lo M % 4294967296) / Y=b:=⟨_,rfl⟩
  obtain ⟨p',ep⟩:∃ p',v * 4294967296+lo M % 4294967296 - b * Y=p':=⟨_,rfl⟩
  have eMM:M=hi M * 18446744073709551616+lo M / 4294967296 * 4294967296+lo M % 4294967296:=by unfold hi lo;omega
  obtain ⟨t1,t2⟩:=kn_two (y:=Y) (by omega) eMM ea ev eb
  obtain ⟨s1,s2⟩:=kn_scale (N:=h * 18446744073709551616+l) (y:=y) p
  rw [eM,eY,t1] at s1
  rw [eM,eY,t2,ep] at s2
  have lM:=lo_u64 M
  have hM:0≤hi M∧hi M<Y:=by unfold hi;omega
  unfold U64 at lM uh ul uy
  refine (div64_run h l y q r S Y (Y / 4294967296) (Y % 4294967296) (hi M) (lo M) (lo M / 4294967296) (lo M % 4294967296) a v b p' h0 hy (by omega) (by omega) hS Sb ?_ rfl (u64_low uY) g1 g2 rfl (u64_low (lo_u64 M)) (by omega) (by omega) (by omega) hM (by omega) (by omega) lM ea ev eb ep (by rw [← hq,s1]) (by rw [← hr,s2]) w).mono ?_
  ·rw [eY,IntKind.wrap_u64];omega
  ·rintro e w' ⟨he,rfl⟩
   exact ⟨he,Below.refl _ _⟩
end Go.Proofs.YtnaebigoknfndaaGreatDoor
namespace Go.Proofs.YtnaebigoknfndaaGreatDoor
def DvR (a0 b:Int) (K m:Nat) (a q:Int):Prop:=q * b+a=a0∧0≤a∧a<b * 2 ^ m∧0≤q∧q+2 ^ m≤2 ^ (K+1)∧∃ z,0≤z∧q=z * 2 ^ m
theorem dvR_start {a b:Int} (ha:U128 a) (hb:U128 b) (h:b≤a) (h1:1≤b) {K:Nat} (hK:blen a - blen b=K):DvR a b K (K+1) a 0:=by
 obtain ⟨i,ei,li,ui⟩:=blen_pos ha (by omega)
 obtain ⟨j,ej,lj,uj⟩:=blen_pos hb (by omega)
 have e:i=j+K:=by omega
 subst e
 refine ⟨by omega,by omega,?_,Int.le_refl _,by omega,0,Int.le_refl _,by omega⟩
 have p:(2:Int) ^ (j+K+1)=2 ^ j * 2 ^ (K+1):=by rw [← Int.pow_add];rfl
 have q:(2:Int) ^ j * 2 ^ (K+1)≤b * 2 ^ (K+1):=Int.mul_le_mul_of_nonneg_right lj (Int.le_of_lt (p2 _))
 omega
theorem dv_len {a b:Int} (ha:U128 a) (hb:U128 b) (h:b≤a) (h1:18446744073709551616≤b):∃ K:Nat,blen a - blen b=K∧K≤63∧∀ m:Nat,m≤K→U128 (b * 2 ^ m):=by
 obtain ⟨i,ei,li,ui⟩:=blen_pos ha (by omega)
 obtain ⟨j,ej,lj,uj⟩:=blen_pos hb (by omega)
 have bd:=blen_bd ha
 have hj:64≤j:=by
  rcases Nat.lt_or_ge j 64 with c | c
  ·have:(2:Int) ^ (j+1)≤2 ^ 64:=by
    rcases Nat.lt_or_eq_of_le (show j+1≤64 by omega) with q | q
    ·have:=pow_lt_pow q;have:=p2 (j+1);omega
    ·rw [q];exact Int.le_refl _
   have e:(2:Int) ^ 64=18446744073709551616:=rfl
   omega
  ·exact c
 have hij:j≤i:=by
  rcases Nat.lt_or_ge i j with c | c
  ·have:=pow_lt_pow (show i+1<j+1 by omega)
   rw [Int.pow_succ 2 j] at this
   have:=p2 j
   omega
  ·exact c
 refine ⟨i - j,by omega,by omega,fun m hm=>?_⟩
 refine (shift_fits (n:=m) hb (by omega) (by omega)).2 (by omega)
theorem dvR_yes {a0 b:Int} {K m:Nat} {a q:Int} (h:DvR a0 b K (m+1) a q) (hc:b * 2 ^ m≤a):DvR a0 b K m (a - b * 2 ^ m) (q+2 ^ m):=by
 obtain ⟨h1,h2,h3,h4,h5,z,hz,h6⟩:=h
 have p:=p2 m
 rw [Int.pow_succ] at h3 h5 h6
 have e1:b * (2 ^ m * 2)=b * 2 ^ m * 2:=by grind
 refine ⟨?_,by omega,by omega,by omega,by omega,2 * z+1,by omega,?_⟩
 ·rw [Int.add_mul,Int.mul_comm (2 ^ m) b];omega
 ·rw [h6];grind
theorem dvR_no {a0 b:Int} {K m:Nat} {a q:Int} (h:DvR a0 b K (m+1) a q) (hc:a<b * 2 ^ m):DvR a0 b K m a q:=by
 obtain ⟨h1,h2,h3,h4,h5,z,hz,h6⟩:=h
 have p:=p2 m
 rw [Int.pow_succ] at h3 h5 h6
 refine ⟨h1,h2,hc,h4,by omega,2 * z,by omega,?_⟩
 rw [h6];grind
theorem dvR_end {a0 b:Int} {K:Nat} {a q:Int} (h:DvR a0 b K 0 a q) (hb:1≤b):a0 / b=q∧a0 % b=a:=by
 obtain ⟨h1,h2,h3,h4,h5,_⟩:=h
 rw [Int.pow_zero,Int.mul_one] at h3
 have e:a0=a+b * q:=by rw [Int.mul_comm b q];omega
 refine ⟨?_,?_⟩
 ·rw [e,Int.add_mul_ediv_left _ _ (by omega),Int.ediv_eq_zero_of_lt h2 h3];omega
 ·rw [e,Int.add_mul_emod_self_left,Int.emod_eq_of_lt h2 h3]
theorem dv_bd {a0 b:Int} {K m:Nat} {a q:Int} (h:DvR a0 b K m a q) (hK:K≤63) (h0:0≤b) (hb:U128 a0):U64 q∧U128 a∧q+2 ^ m≤18446744073709551616:=by
 obtain ⟨h1,h2,h3,h4,h5,_⟩:=h
 have p:(2:Int) ^ (K+1)≤2 ^ 64:=by
  rcases Nat.lt_or_eq_of_le (show K+1≤64 by omega) with q | q
  ·have:=pow_lt_pow q;have:=p2 (K+1);omega
  ·rw [q];exact Int.le_refl _
 have e:(2:Int) ^ 64=18446744073709551616:=rfl
 have f:=p2 m
 have g:=Int.mul_nonneg h4 h0
 unfold U64 U128 at *
 omega
theorem dv_or {a0 b:Int} {K m:Nat} {a q:Int} (h:DvR a0 b K (m+1) a q) (hK:K≤63) (h0:0≤b) (hb:U128 a0):bits .or .u64 q (2 ^ m)=q+2 ^ m:=by
 obtain ⟨u,_,v⟩:=dv_bd h hK h0 hb
 obtain ⟨h1,h2,h3,h4,h5,z,hz,h6⟩:=h
 obtain ⟨Z,rfl⟩:=Int.eq_ofNat_of_zero_le hz
 have p:=p2 m
 have c:q=((Z * 2 ^ (m+1):Nat):Int):=by rw [h6,Int.natCast_mul,Int.natCast_pow];rfl
 have d:(2:Int) ^ m=((2 ^ m:Nat):Int):=(pow_cast m).symm
 rw [Int.pow_succ] at v
 unfold U64 at u
 rw [d] at v p ⊢
 rw [c] at u v ⊢
 rw [u64_or_nat _ _ (by omega) (by omega),or_add (Nat.pow_lt_pow_right (by omega) (by omega))]
 exact Int.natCast_add _ _
end Go.Proofs.YtnaebigoknfndaaGreatDoor

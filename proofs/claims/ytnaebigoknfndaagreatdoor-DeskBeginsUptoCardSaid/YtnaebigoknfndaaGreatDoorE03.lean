/- What the desk's two laws lean on: part 03 (contracts and plain laws; their conditions stand in each). -/
import Derived.Test.YtnaebigoknfndaaGreatDoorE01
import Derived.Test.YtnaebigoknfndaaGreatDoorE02
set_option linter.unusedVariables false
set_option linter.unusedSimpArgs false
set_option maxRecDepth 100000
set_option maxHeartbeats 20000000
namespace Go.Proofs.YtnaebigoknfndaaGreatDoor
open Go Go.RowKit
def NodeAt (w:World) (b:Nat) (id:ByteArray) (inc every cap least now seq drops:Int) (P S:Value):Prop:=
 w.heap[b]? = some (.cells #[.string id,.int .i64 inc,.int .i64 every,.int .i64 cap,.int .i64 least,.int .i64 now,.int .i64 seq,.int .i64 drops,P,S] 177 (0,0))
section
variable {w w':World} {b:Nat} {id:ByteArray} {inc every cap least now seq drops:Int} {P S:Value}
theorem NodeAt.cells (h:NodeAt w b id inc every cap least now seq drops P S):w.cell? ⟨b,0,none⟩=some (.string id)∧w.cell? ⟨b,1,none⟩=some (.int .i64 inc)∧w.cell? ⟨b,2,none⟩=some (.int .i64 every)∧w.cell? ⟨b,3,none⟩=some (.int .i64 cap)∧w.cell? ⟨b,4,none⟩=some (.int .i64 least) ∧
  w.cell? ⟨b,5,none⟩=some (.int .i64 now)∧w.cell? ⟨b,6,none⟩=some (.int .i64 seq)∧w.cell? ⟨b,7,none⟩=some (.int .i64 drops)∧w.cell? ⟨b,8,none⟩=some P∧w.cell? ⟨b,9,none⟩=some S:=by
 unfold NodeAt at h
 refine ⟨?_,?_,?_,?_,?_,?_,?_,?_,?_,?_⟩ <;> (rw [cell_of_row _ _ _ _ _ _ h];rfl)
theorem NodeAt.frozen (h:NodeAt w b id inc every cap least now seq drops P S) (o:Nat):w.frozen? ⟨b,o,none⟩=false:=by unfold NodeAt at h;simp [World.frozen?,h]
theorem NodeAt.same (h:NodeAt w b id inc every cap least now seq drops P S) (e:w'.heap[b]? = w.heap[b]?):NodeAt w' b id inc every cap least now seq drops P S:=e.trans h
theorem NodeAt.below {B:Nat} (h:NodeAt w b id inc every cap least now seq drops P S) (e:Below B w w') (hb:b<B):NodeAt w' b id inc every cap least now seq drops P S:=(e.block b hb).trans h
theorem NodeAt.lt (h:NodeAt w b id inc every cap least now seq drops P S):b<w.heap.size:=(Array.getElem?_eq_some_iff.1 h).1
theorem NodeAt.setNow (h:NodeAt w b id inc every cap least now seq drops P S) (x:Int):NodeAt (w.setCell ⟨b,5,none⟩ (.int .i64 x)) b id inc every cap least x seq drops P S:=by
 unfold NodeAt at *;simp [World.setCell,Array.getElem?_modify,h]
theorem NodeAt.setSeq (h:NodeAt w b id inc every cap least now seq drops P S) (x:Int):NodeAt (w.setCell ⟨b,6,none⟩ (.int .i64 x)) b id inc every cap least now x drops P S:=by
 unfold NodeAt at *;simp [World.setCell,Array.getElem?_modify,h]
theorem NodeAt.setDrops (h:NodeAt w b id inc every cap least now seq drops P S) (x:Int):NodeAt (w.setCell ⟨b,7,none⟩ (.int .i64 x)) b id inc every cap least now seq x P S:=by
 unfold NodeAt at *;simp [World.setCell,Array.getElem?_modify,h]
theorem NodeAt.setPeers (h:NodeAt w b id inc every cap least now seq drops P S) (x:Value):NodeAt (w.setCell ⟨b,8,none⟩ x) b id inc every cap least now seq drops x S:=by
 unfold NodeAt at *;simp [World.setCell,Array.getElem?_modify,h]
theorem NodeAt.setSubs (h:NodeAt w b id inc every cap least now seq drops P S) (x:Value):NodeAt (w.setCell ⟨b,9,none⟩ x) b id inc every cap least now seq drops P x:=by
 unfold NodeAt at *;simp [World.setCell,Array.getElem?_modify,h]
end
theorem ncheck_ok (id:ByteArray) (inc every cap least:Int) (w:World) (hid:IdOK (byts id)) (hi:0≤inc∧inc<2147483648) (he:1≤every∧every≤16777216) (hc:1≤cap∧cap≤64) (hl:1≤least∧least≤16777216) :
  Calls Tryz.prog 147 #[.agg #[.string id,.int .i64 inc,.int .i64 every,.int .i64 cap,.int .i64 least]] w fun e w'=>e=.returned (.int .i64 0)∧Below w.heap.size w w':=by
 have HI:=Lib.hid (fun w'=>id_ok id w' hid)
 clear hid
 obtain ⟨i1,i2⟩:=hi
 obtain ⟨e1,e2⟩:=he
 obtain ⟨c1,c2⟩:=hc
 obtain ⟨l1,l2⟩:=hl
 have qa:=alloc_cells
 have qf:=alloc_frozens
 go_enter Tryz.func147,Tryz.ntmps147
 go_wp2_with fail
 refine (HI.out _).mono ?_
 rintro e w' ⟨rfl,rfl⟩
 go_wp2_with fail
 refine (val_ok every (by omega) (by omega) _).mono ?_
 rintro e w' ⟨rfl,rfl⟩
 go_wp2_with fail
 refine (val_ok least (by omega) (by omega) _).mono ?_
 rintro e w' ⟨rfl,rfl⟩
 go_wp2_with fail
 go_ret
 exact ⟨rfl,(Below.refl _ _).alloc (Nat.le_refl _) _⟩
theorem new_ok (id:ByteArray) (inc every cap least:Int) (w:World) (hid:IdOK (byts id)) (hi:0≤inc∧inc<2147483648) (he:1≤every∧every≤16777216) (hc:1≤cap∧cap≤64) (hl:1≤least∧least≤16777216) :
  Calls Tryz.prog 118 #[.agg #[.string id,.int .i64 inc,.int .i64 every,.int .i64 cap,.int .i64 least]] w fun e w'=>∃ b,e=.returned (.tuple #[.pointer (some ⟨b,0,none⟩),.int .i64 0])∧w.heap.size≤b∧NodeAt w' b id inc every cap least 0 0 0 (.slice none 0 0) (.slice none 0 0)∧Below w.heap.size w w':=by
 have HC:=Lib.hid (fun w'=>ncheck_ok id inc every cap least w' hid hi he hc hl)
 clear hid hi he hc hl
 have qa:=alloc_cells
 have qf:=alloc_frozens
 go_enter Tryz.func118,Tryz.ntmps118
 go_wp2_with fail
 refine (HC.out _).mono ?_
 rintro e w1 ⟨rfl,hb1⟩
 have z1:=hb1.size
 have c1:=Below.cells hb1
 have f1:=Below.frozens hb1
 try simp only [World.size_alloc,World.size_setCell,World.size_drew] at z1 c1 f1
 go_wp2_with fail
 have NB:=Lib.hid (heap_alloc_last w1 (.cells #[.string id,.int .i64 inc,.int .i64 every,.int .i64 cap,.int .i64 least,.int .i64 0,.int .i64 0,.int .i64 0,.slice none 0 0,.slice none 0 0] 177))
 refine bodyPost_ret (v:=.tuple #[.pointer (some ⟨w1.heap.size,0,none⟩),.int .i64 0]) (by simp [results,Tryz.f118,go_sem,↓IntWalk.iteOmega, *]) rfl ?_
 exact ⟨w1.heap.size,rfl,by omega,NB.out,(by repeat (first | (with_reducible exact Below.refl _ _) | (with_reducible refine bAl ?_ _) | (with_reducible refine bSc ?_ _) | (with_reducible refine Below.drew ?_) | (with_reducible refine bTm ?_ hb1)))⟩
theorem now_ok {b:Nat} {id:ByteArray} {inc every cap least now seq drops:Int} {P S:Value} (w:World) (h:NodeAt w b id inc every cap least now seq drops P S) :
  Calls Tryz.prog 121 #[.pointer (some ⟨b,0,none⟩)] w fun e w'=>e=.returned (.int .i64 now)∧w=w':=by
 obtain ⟨_,_,_,_,_,c5,_⟩:=h.cells
 clear h
 go_enter Tryz.func121,Tryz.ntmps121
 go_wp2_with fail
 go_ret
 exact ⟨rfl,rfl⟩
theorem info_str:(Tryz.prog.info? 9).map (fun i=>(i.zero,i.size,i.bytes))=some (some (.string ⟨#[]⟩),1,16):=by kernel_rfl
theorem one_str (y:ByteArray):∀ u ∈ [Value.string y],u.oneCell'=true:=by intro u hu;simp at hu;subst hu;rfl
def sent (id:ByteArray) (inc seq m:Nat):List Value:=(List.range m).map fun j=>Value.string (mkB (encL (byts id) inc (seq+1+j)))
theorem sent_snoc (id:ByteArray) (inc seq m:Nat):sent id inc seq (m+1)=sent id inc seq m ++ [Value.string (mkB (encL (byts id) inc (seq+m+1)))]:=by
 unfold sent;rw [List.range_succ,List.map_append];simp [Nat.add_right_comm]
end Go.Proofs.YtnaebigoknfndaaGreatDoor

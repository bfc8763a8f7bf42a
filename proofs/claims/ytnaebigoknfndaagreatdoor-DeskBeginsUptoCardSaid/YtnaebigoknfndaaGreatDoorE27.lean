/- What the desk's two laws lean on: part 27 (contracts and plain laws; their conditions stand in each). -/
import Derived.Test.YtnaebigoknfndaaGreatDoorE01
import Derived.Test.YtnaebigoknfndaaGreatDoorE17
import Derived.Test.YtnaebigoknfndaaGreatDoorE26
import Derived.Test.YtnaebigoknfndaaGreatDoorE16
import Derived.Test.YtnaebigoknfndaaGreatDoorRows
import Derived.Lib.LaidTab
import Derived.Stop.LaidErr
import Derived.LaidByTextLater
set_option linter.unusedVariables false
set_option linter.unusedSimpArgs false
set_option maxRecDepth 100000
set_option maxHeartbeats 20000000
namespace Go.Proofs.YtnaebigoknfndaaGreatDoor
open Go Go.RowKit
theorem drep_new {w:World} {d:Nat} (h:w.heap[d]? = some (.cells #[.pointer none,.slice none 0 0] 37 (0,0))) (h10:10≤d):DRep w d S0 (fun x=>x=d):=by
 refine ⟨none,.slice none 0 0,fun _=>False,h,⟨World.ownsRow_nil _ _ _ _,fun _=>rfl⟩,⟨rfl,fun _ h=>h⟩,rfl,?_,?_,?_⟩
 ·intro g hg;cases hg
 ·intro x hx;cases hx
 ·intro x hx
  have hx:x=d:=hx
  rw [hx]
  exact ⟨h10,(Array.getElem?_eq_some_iff.1 h).1⟩
theorem brep_new {w:World} {B o:Nat} (h:w.heap[o]? = some (.cells #[.pointer none,.slice none 0 0] 41 (0,0))) (hB:B≤o):BRep w B o [] (fun x=>x=o):=by
 refine ⟨.pointer none,.slice none 0 0,.inl rfl,h,World.ownsRow_nil _ _ _ _,rfl,?_,?_⟩
 ·intro g hg;cases hg
 ·intro x hx
  have hx:x=o:=hx
  rw [hx]
  exact ⟨hB,(Array.getElem?_eq_some_iff.1 h).1⟩
theorem BRep.is {w:World} {B o:Nat} {bs:List Value} {f:Nat→Prop} (h:BRep w B o bs f):Lib.IsBuilder 41 5 B o bs w:=by
 obtain ⟨p,v,h1,h2,h3,h4,h5,h6⟩:=h
 have hB:=(h6 o h4).1
 have hv:v.ownBlock≠some o:=fun e=>(h5 o e).2 rfl
 rcases h1 with rfl | rfl
 ·exact .inl ⟨hB,v,h2,h3,hv⟩
 ·exact .inr ⟨hB,v,h2,h3,hv⟩
def bigB:ByteArray:=⟨#[101,114,114,111,114,32,50,10]⟩
def wordsQ (l:Bs) (q:Nat):List Bs:=((cutL 32 [] l).take q).filter (fun x=>x ≠ [])
theorem wordsQ_all (l:Bs):wordsQ l (cutL 32 [] l).length=wordsL l:=by unfold wordsQ wordsL;rw [List.take_length]
theorem wordsQ_skip {l:Bs} {q:Nat} (h:q<(cutL 32 [] l).length) (he:(cutL 32 [] l).getD q [] = []):wordsQ l (q+1)=wordsQ l q:=by
 unfold wordsQ
 have e:(cutL 32 [] l).take (q+1)=(cutL 32 [] l).take q ++ [(cutL 32 [] l).getD q []]:=by
  rw [List.take_add_one,List.getD_eq_getElem?_getD,List.getElem?_eq_getElem h];rfl
 rw [e,he,List.filter_append]
 simp
theorem wordsQ_more {l:Bs} {q:Nat} (h:q<(cutL 32 [] l).length) (he:(cutL 32 [] l).getD q [] ≠ []):wordsQ l (q+1)=wordsQ l q ++ [(cutL 32 [] l).getD q []]:=by
 unfold wordsQ
 have e:(cutL 32 [] l).take (q+1)=(cutL 32 [] l).take q ++ [(cutL 32 [] l).getD q []]:=by
  rw [List.take_add_one,List.getD_eq_getElem?_getD,List.getElem?_eq_getElem h];rfl
 rw [e,List.filter_append]
 congr 1
 rw [List.filter_cons_of_pos (by simpa using he)]
 rfl
theorem cutL_len (c:UInt8) (e:Bs):∀ l:Bs,(cutL c e l).length≤l.length+1
 | []=>by simp [cutL]
 | b :: l=>by
   have ih:=cutL_len c e l
   unfold cutL
   split
   ·simp;omega
   ·split
    ·simp
    ·rename_i p ps h
     rw [h] at ih
     simp at ih ⊢
     omega
theorem wordsQ_len (l:Bs) (q:Nat):(wordsQ l q).length≤q:=by
 unfold wordsQ
 refine Nat.le_trans (List.length_filter_le _ _) ?_
 rw [List.length_take]
 omega
def StrRow (w:World) (b:Nat) (P:List Bs):Prop:=b<w.heap.size∧∀ j,j<P.length→w.cell? ⟨b,j,none⟩=some (.string (ar (P.getD j [])))
theorem strRow_new (w:World) (P:List Bs) (T:TypeId):StrRow (w.alloc (.cells ((P.map ar).map Value.string).toArray T)) w.heap.size P:=by
 refine ⟨by simp,fun j hj=>?_⟩
 simp only [World.cell?,World.alloc,Array.getElem?_push_size,Option.bind_some]
 rw [List.getElem?_toArray,List.getElem?_map,List.getElem?_map,List.getD_eq_getElem?_getD,List.getElem?_eq_getElem hj]
 rfl
theorem StrRow.below {w w':World} {b:Nat} {P:List Bs} (h:StrRow w b P) (hb:Below w.heap.size w w'):StrRow w' b P:=⟨Nat.lt_of_lt_of_le h.1 hb.size,fun j hj=>(hb.cell (p:=⟨b,j,none⟩) h.1).trans (h.2 j hj)⟩
theorem split_ok (c:UInt8) (l:Bs) (w:World) (g:GOK w) (hz:l.length≤1048576) (P:List Bs) (hP:cutL c [] l=P) (m:Nat) (hm:P.length=m) :
  Calls Tryz.prog 11 #[.string (ar l),.string ⟨#[c]⟩] w fun e w'=>e=.returned (.slice (some ⟨w.heap.size,0,none⟩) m m)∧StrRow w' w.heap.size P∧Below w.heap.size w w'∧w'.heap.size=w.heap.size+1:=by
 obtain ⟨mm,hmm⟩:=g.mlen
 refine (Tryz.strings_Split (ar l) (sepB c) mm w (by rw [ar_size];omega) hmm (Nat.le_refl 1)).mono ?_
 have h1:Lib.splitB (sepB c) 0 (Lib.countB (ar l) (sepB c)) (ar l)=P.map ar:=by rw [← hP];exact partsB_cut c (ar l)
 have h2:Lib.countB (ar l) (sepB c)+1=m:=by rw [← partsB_len c (ar l),partsB_cut,bl_ar,hP,List.length_map,hm]
 rintro e w' ⟨rfl,rfl⟩
 rw [h1,h2]
 exact ⟨rfl,strRow_new _ _ _,(Below.refl _ _).alloc (Nat.le_refl _) _,by simp⟩
theorem two_new (w1:World) (o1 o2:Obj) (D:Nat) (hD:w1.heap.size=D):((w1.alloc o1).alloc o2).heap[D]? = some o1∧((w1.alloc o1).alloc o2).heap[D+1]? = some o2∧Below D w1 ((w1.alloc o1).alloc o2):=by
 subst hD
 refine ⟨?_,?_,((Below.refl _ _).alloc (Nat.le_refl _) _).alloc (by simp) _⟩
 ·rw [heap_alloc_old _ _ (by simp)];exact heap_alloc_new _ _
 ·have:=heap_alloc_new (w1.alloc o1) o2
  rwa [World.size_alloc] at this
theorem own_first {w:World} {base e n c:Nat} {A:Option Addr} {xs:List Value} (h:w.ownsRow base e 1 (.slice A n c) n xs) (hn:0<n):∃ g,A=some ⟨g,0,none⟩∧g<w.heap.size∧∀ j u,xs[j]? = some u→w.cell? ⟨g,j,none⟩=some u:=by
 rcases h.2 with ⟨_,h1⟩ | ⟨g,cap,cur,e1,hg,_⟩
 ·omega
 ·injection e1 with e1 _ e2
  subst e1
  refine ⟨g,rfl,(h.lt g rfl).2,fun j u hj=>?_⟩
  have:=h.cells (g:=g) rfl j u hj
  rwa [Go.WideShapes.add_plain,Nat.zero_add] at this
def Mid (D:Nat) (S:DSt) (bs:Bs) (w0 wr:World):Prop:=∃ fd fo,DRep wr D S fd∧BRep wr D (D+1) (Lib.byteCells bs) fo∧(∀ x,fd x→D≤x∧¬ fo x)∧Below D w0 wr
theorem Mid.size {D:Nat} {S:DSt} {bs:Bs} {w0 w:World} (h:Mid D S bs w0 w):D<w.heap.size∧Below D w0 w:=by
 obtain ⟨fd,fo,h1,_,_,h4⟩:=h
 exact ⟨(h1.lt D h1.fd).2,h4⟩
theorem Mid.below {D:Nat} {S:DSt} {bs:Bs} {w0 w w':World} (h:Mid D S bs w0 w) (hb:Below w.heap.size w w'):Mid D S bs w0 w':=by
 have hz:=h.size.1
 obtain ⟨fd,fo,h1,h2,h3,h4⟩:=h
 exact ⟨fd,fo,h1.below hb,h2.same (Same.of_below hb),h3,h4.trans (hb.mono (by omega))⟩
theorem ans_mid {D:Nat} {S S':DSt} {bs:Bs} {w0 w:World} (h:Mid D S bs w0 w) (g:GOK w) {L:List ByteArray} {o:Out} (ha:AnsR S L o S') (A:Option Addr) (n c:Nat) (hn:L.length=n) (hz:n≤1048576)
  (hc:∀ j,j<n→∃ g off,A=some ⟨g,off,none⟩∧g<w.heap.size∧w.cell? ⟨g,off+j,none⟩=some (.string (L.getD j ⟨#[]⟩))∧(L.getD j ⟨#[]⟩).size≤1048576) :
  Calls Tryz.prog 13 #[.pointer (some ⟨D,0,none⟩),.slice A n c] w fun e w'=>e=.returned (.string o.text)∧Mid D S' bs w0 w':=by
 have hz2:=h.size.1
 obtain ⟨fd,fo,h1,h2,h3,h4⟩:=h
 refine (ha w D fd A n c g h1 hn hz hc).mono ?_
 rintro e w' ⟨rfl,fd',k1,k2,k3⟩
 refine ⟨rfl,fd',fo,k1,h2.same (k3.same fun x hx hf=>(h3 x hf).2 hx),fun x hx=>?_,h4.trans (k3.below (by omega) fun x hx=>(h3 x hx).1)⟩
 rcases k2 x hx with k | k
 ·exact h3 x k
 ·exact ⟨by omega,fun e=>by have:=(h2.lt x e).2;omega⟩
theorem write_mid {D:Nat} {S:DSt} {bs bs':Bs} {w0 w w':World} {fd fo fo':Nat→Prop} (h1:DRep w D S fd) (h2:BRep w D (D+1) (Lib.byteCells bs) fo) (h3:∀ x,fd x→D≤x∧¬ fo x) (h4:Below D w0 w)
  (k1:BRep w' D (D+1) (Lib.byteCells bs') fo') (k2:∀ x,fo' x→fo x∨w.heap.size≤x) (k3:Kept fo w w'):Mid D S bs' w0 w':=by
 have hz:=(h1.lt D h1.fd).2
 refine ⟨fd,fo',h1.same (k3.same fun x hx=>(h3 x hx).2),k1,fun x hx=>⟨(h3 x hx).1,fun e=>?_⟩,h4.trans (k3.below (by omega) fun x hx=>(h2.lt x hx).1)⟩
 rcases k2 x e with k | k
 ·exact (h3 x hx).2 k
 ·have:=(h1.lt x hx).2;omega
theorem str_mid {D:Nat} {S:DSt} {bs:Bs} {w0 w:World} (h:Mid D S bs w0 w) (s:ByteArray) (hz:bs.length+s.size≤140737488355328) :
  Calls Tryz.prog 12 #[.pointer (some ⟨D+1,0,none⟩),.string s] w fun e w'=>e=.returned (.tuple #[.int .i64 s.size,.nilIface])∧Mid D S (bs++s.data.toList) w0 w':=by
 have hz2:=h.size.1
 obtain ⟨fd,fo,h1,h2,h3,h4⟩:=h
 refine (bwrite_str s h2 (by omega) (by rw [Lib.byteCells_length];exact hz)).mono ?_
 rintro e w' ⟨rfl,fo',k1,k2,k3⟩
 rw [Lib.strCells_eq,← Lib.byteCells_append] at k1
 exact ⟨rfl,write_mid h1 h2 h3 h4 k1 k2 k3⟩
theorem byte_mid {D:Nat} {S:DSt} {bs:Bs} {w0 w:World} (h:Mid D S bs w0 w) (hz:bs.length+1≤140737488355328) :
  Calls Tryz.prog 14 #[.pointer (some ⟨D+1,0,none⟩),.int .u8 10] w fun e w'=>e=.returned .nilIface∧Mid D S (bs ++ [10]) w0 w':=by
 have hz2:=h.size.1
 obtain ⟨fd,fo,h1,h2,h3,h4⟩:=h
 refine (bwrite_byte 10 h2 (by omega) (by rw [Lib.byteCells_length];exact hz)).mono ?_
 rintro e w' ⟨rfl,fo',k1,k2,k3⟩
 have e1:Lib.byteCells bs ++ [Value.int .u8 ((10:Nat):Int)]=Lib.byteCells (bs ++ [10]):=by rw [Lib.byteCells_append];rfl
 rw [e1] at k1
 exact ⟨rfl,write_mid h1 h2 h3 h4 k1 k2 k3⟩
abbrev MidK (D:Nat) (T:Nat→List ByteArray) (St:Nat→DSt) (w0:World) (k:Nat) (wr:World):Prop:=Mid D (St k) (runT (T k)) w0 wr
theorem run_walk (l:Bs) (hz:l.length≤1048576) (P:List Bs) (hP:cutL 10 [] l=P) (m:Nat) (hm:P.length=m) (n:Nat) (wl:Bs) (hwl:P.getD (m - 1) []=wl) (hn:(linesL l).length=n) (hn2:n=if wl = [] then m - 1 else m)
  (hL:∀ j,j<n→(linesL l).getD j []=P.getD j []) (T:Nat→List ByteArray) (St:Nat→DSt) (ch:Chain (linesL l) n T St) (w:World) (g:GOK w) :
  Calls Tryz.prog 5 #[.string (ar l)] w fun e w'=>e=.returned (.string (if l.length≤65536∧n≤200 then ar (runT (T n)) else bigB))∧Below w.heap.size w w':=by
 have hm0:0<m:=by rw [← hm,← hP];exact List.length_pos_iff.2 (cutL_ne _ _ _)
 have hmz:m≤1048577:=by have:=cutL_len 10 [] l;rw [hP,hm] at this;omega
 have h10:=g.low
 have HSp:=Lib.hid (split_ok 10 l w g hz P hP m hm)
 obtain ⟨ll,hll⟩:∃ n,l.length=n:=⟨_,rfl⟩
 have hsz:(ar l).size=ll:=by rw [← hll,ar_size]
 obtain ⟨s,hs⟩:∃ s,ar l=s:=⟨_,rfl⟩
 rw [hs] at hsz
 have Hll:=Lib.hid hll
 rw [hll] at hz ⊢
 obtain ⟨R,hR⟩:∃ R,(if ll≤65536∧n≤200 then ar (runT (T n)) else bigB)=R:=⟨_,rfl⟩
 rw [hR]
 have HRR:=Lib.hid hR
 clear hR
 obtain ⟨q,hq⟩:∃ q,ar wl=q:=⟨_,rfl⟩
 rw [hs] at HSp ⊢
 have HG:=Lib.hid g
 have HP:=Lib.hid hm
 have HL:=Lib.hid hL
 have HC:=Lib.hid ch
 have Hwl:=Lib.hid hwl
 have HN:=Lib.hid hn
 clear g hm hL ch hwl hn hP
 have lz:IntKind.i64.wrap ((m:Int) - 1)=((m - 1:Nat):Int):=by rw [IntWalk.i64_in _ (by omega)];omega
 go_enter Tryz.func5,Tryz.ntmps5
 go_wp2_with fail
 refine HSp.out.mono ?_
 rintro e w1 ⟨rfl,hr1,hb1,z1⟩
 have c1:w1.cell? ⟨w.heap.size,m - 1,none⟩=some (.string q):=by rw [hr1.2 (m - 1) (by have:=HP.out;omega),Hwl.out,hq]
 have HR1:=Lib.hid hr1
 have HB1:=Lib.hid hb1
 clear hr1 hb1
 by_cases hw:wl = []
 case' pos=>
  have eq0:(q.toList == [])=true:=by rw [← hq,hw];exact lit_yes []
  rw [if_pos hw] at hn2
 case' neg=>
  have eq0:(q.toList == [])=false:=lit_no (fun e=>hw (ar_inj (hq.trans e)))
  rw [if_neg hw] at hn2
 all_goals
  clear hw hq hs hll
  by_cases b1:65536<ll
  ·have hR:=HRR.out
   rw [if_neg (by omega)] at hR
   have HR3:=Lib.hid hR
   clear hR
   have b2:(65536:Int)<ll:=by omega
   have b3:¬ (ll:Int)≤65536:=by omega
   go_wp2_with fail
   go_ret
   exact ⟨by rw [← HR3.out];rfl,HB1.out⟩
  have b2:¬ (65536:Int)<ll:=by omega
  by_cases d1:200<n
  ·have hR:=HRR.out
   rw [if_neg (by omega)] at hR
   have HR3:=Lib.hid hR
   clear hR
   rw [hn2] at d1
   have d2:(200:Int)<(n:Int):=by omega
   rw [hn2] at d2
   go_wp2_with fail
   go_ret
   exact ⟨by rw [← HR3.out];rfl,HB1.out⟩
  have hR:=HRR.out
  rw [if_pos (by omega)] at hR
  have HR3:=Lib.hid hR
  clear hR
  have d2:¬ (200:Int)<(n:Int):=by omega
  rw [hn2] at d2
  go_wp2_with fail
  clear c1
  rw [← hn2]
  obtain ⟨D,hD⟩:∃ D,w.heap.size+1=D:=⟨_,rfl⟩
  rw [hD]
  obtain ⟨w2,hw2⟩:∃ x,((w1.alloc (.cells #[.pointer none,.slice none 0 0] 37)).alloc (.cells #[.pointer none,.slice none 0 0] 41))=x:=⟨_,rfl⟩
  rw [hw2]
  have zD:w1.heap.size=D:=z1.trans hD
  obtain ⟨e1,e2,B2⟩:=two_new w1 (.cells #[.pointer none,.slice none 0 0] 37) (.cells #[.pointer none,.slice none 0 0] 41) D zD
  rw [hw2] at e1 e2 B2
  have HM:=Lib.hid (show MidK D T St w1 0 w2 from ⟨_,_,by rw [HC.out.s0];exact drep_new e1 (by omega),by rw [HC.out.t0];exact brep_new e2 (by omega),fun x hx=>⟨by omega,by omega⟩,B2⟩)
  have Z2:=Lib.hid (show D≤w1.heap.size∧w.heap.size<D from ⟨by omega,by omega⟩)
  have Nm:=Lib.hid (show n≤m by omega)
  clear hw2 e1 e2 B2 zD z1 hD eq0 lz hn2 b2 d2
  go_loopw [38] (fun i wr=>∃ k:Nat,i=.int .i64 k∧k≤n∧MidK D T St w1 k wr) (fun i _=>n - (intOf i).toNat)
  case atStart=>exact ⟨0,rfl,Nat.zero_le _,HM.out⟩
  case round=>
   obtain ⟨k,rfl,hk,hmid⟩:=hrel
   have HM1:=Lib.hid hmid
   clear hmid
   by_cases hlt:k<n
   ·obtain ⟨x,hx⟩:∃ x,(linesL l).getD k []=x:=⟨_,rfl⟩
    have hxz:x.length≤65536:=by
     rw [← hx,List.getD_eq_getElem?_getD,List.getElem?_eq_getElem (by rw [HN.out];exact hlt)]
     exact Nat.le_trans (linesL_mem (List.getElem_mem _)) (by rw [Hll.out];omega)
    have hcr:wr.cell? ⟨w.heap.size,k,none⟩=some (.string (ar x)):=by
     have m4:=HM1.out.size.2
     rw [(m4.cell (p:=⟨w.heap.size,k,none⟩) Z2.out.2).trans (HR1.out.2 k (by have:=HP.out;have:=Nm.out;omega)),← HL.out k hlt,hx]
    have gr:GOK wr:=by
     have m4:=HM1.out.size.2
     exact (HG.out.below HB1.out HG.out.low).below m4 (by have:=Z2.out;have:=HG.out.low;omega)
    obtain ⟨P2,hP2⟩:∃ P2,cutL 32 [] x=P2:=⟨_,rfl⟩
    obtain ⟨m2,hm2⟩:∃ m2,P2.length=m2:=⟨_,rfl⟩
    have hm2z:m2≤65537:=by have:=cutL_len 32 [] x;rw [hP2,hm2] at this;omega
    have HSq:=Lib.hid (split_ok 32 x wr gr (by omega) P2 hP2 m2 hm2)
    have HP2:=Lib.hid hP2
    have HM2:=Lib.hid hm2
    have HX:=Lib.hid hx
    have Hxz:=Lib.hid hxz
    have GR:=Lib.hid gr
    obtain ⟨s1,hs1⟩:∃ s1,ar x=s1:=⟨_,rfl⟩
    rw [hs1] at hcr HSq
    have kn:(k:Int)<n:=by omega
    have k0:(0:Int)≤k:=by omega
    clear hx hxz gr hP2 hm2 hs1
    go_wp2_with fail
    refine HSq.out.mono ?_
    rintro e w5 ⟨rfl,hr5,hb5,z5⟩
    have HR5:=Lib.hid hr5
    have HB5:=Lib.hid hb5
    have Z5:=Lib.hid (show wr.heap.size<w5.heap.size by omega)
    clear hr5 hb5 z5
    go_wp2_with fail
    obtain ⟨wx,rfl⟩:∃ z:World,z=wr:=⟨_,rfl⟩
    obtain ⟨i0,hi,hz0,hz1,hz2⟩:=info_parts info_str
    go_loopw [9,45] (fun v i wr=>∃ q:Nat,i=.int .i64 q∧q≤m2∧wr.ownsRow w5.heap.size 9 1 v (wordsQ x q).length ((wordsQ x q).map fun y=>Value.string (ar y))∧Below w5.heap.size w5 wr) (fun _ i _=>m2 - (intOf i).toNat)
    case atStart=>exact ⟨0,rfl,Nat.zero_le _,World.ownsRow_nil _ _ _ _,Below.refl _ _⟩
    case round=>
     obtain ⟨q,rfl,hq2,hown,bel⟩:=hrel
     have hsz5:=bel.size
     have qw:IntKind.i64.wrap ((q:Int)+1)=(q:Int)+1:=IntWalk.i64_in _ (by omega)
     by_cases hlt2:q<m2
     ·obtain ⟨y,hy⟩:∃ y,P2.getD q []=y:=⟨_,rfl⟩
      have hc:=(bel.cell (p:=⟨wx.heap.size,q,none⟩) Z5.out).trans (HR5.out.2 q (by have:=HM2.out;omega))
      rw [hy] at hc
      have lq:(q:Int)<m2:=by omega
      have lq0:(0:Int)≤q:=by omega
      obtain ⟨t1,ht1⟩:∃ t1,ar y=t1:=⟨_,rfl⟩
      rw [ht1] at hc
      have hq3:q<(cutL 32 [] x).length:=by rw [HP2.out,HM2.out];exact hlt2
      have hy2:(cutL 32 [] x).getD q []=y:=by rw [HP2.out];exact hy
      by_cases hye:y = []
      ·have eqt:(t1.toList == [])=true:=by rw [← ht1,hye];exact lit_yes []
       rw [← wordsQ_skip hq3 (hy2.trans hye)] at hown
       have HO:=Lib.hid hown
       clear hy ht1 hq3 hy2 hye hown
       go_wp2_with fail
       go_roundw
       case rel=>first | exact ⟨q+1,by go_num,by omega,HO.out,bel⟩ | ((repeat apply Exists.intro);exact ⟨⟨q+1,by go_num,by omega,HO.out,bel⟩,rfl⟩)
       case measure=>simp [intOf];omega
      ·have eqt:(t1.toList == [])=false:=lit_no (fun e=>hye (ar_inj (ht1.trans e)))
       have hmore:=wordsQ_more hq3 (by rw [hy2];exact hye)
       rw [hy2] at hmore
       have hwl:=wordsQ_len x q
       obtain ⟨r,hr⟩:∃ r,(wordsQ x q).length=r:=⟨_,rfl⟩
       rw [hr] at hown hwl
       have HMo:=Lib.hid hmore
       have HRl:=Lib.hid hr
       have HT:=Lib.hid ht1
       clear hy ht1 hq3 hy2 hye hmore hr
       go_wp2_with (at_builtin;go_loud (refine wpList_append_own _ rfl _ _ 26 rfl (w5.heap.size) 9 i0 (.string ⟨#[]⟩) 1 16 Tryz.underlying26 hi hz0 hz1 hz2 rfl (by decide) _ _ _ rfl (World.ownsRow.alloc hown _) ⟨wr.heap.size,0,none⟩ 1 1 [.string t1] rfl rfl (app1_cells _ _ _) (one_str _) (by unfold maxLen;omega) (by omega) (by simp;omega) ?_))
       intro v' w6 own6 gr6 _
       have own2:w6.ownsRow w5.heap.size 9 1 v' (wordsQ x (q+1)).length ((wordsQ x (q+1)).map fun y=>Value.string (ar y)):=by
        rw [HMo.out,List.length_append,HRl.out,List.map_append]
        simpa [HT.out] using own6
       have grw:=(bel.alloc (by omega) _).grown gr6 (by simp;omega) (fun g hg=>(hown.lt g hg).1)
       have HO:=Lib.hid own2
       clear own6 gr6 own2 hown
       go_wp2_with fail
       go_roundw
       case rel=>first | exact ⟨q+1,by go_num,by omega,HO.out,grw⟩ | ((repeat apply Exists.intro);exact ⟨⟨q+1,by go_num,by omega,HO.out,grw⟩,rfl⟩)
       case measure=>simp [intOf];omega
     ·obtain rfl:q=m2:=by omega
      rw [← HM2.out,← HP2.out,wordsQ_all] at hown
      have lq:¬ (q:Int)<q:=by omega
      obtain ⟨wy,rfl⟩:∃ z:World,z=wr:=⟨_,rfl⟩
      have HMy:=Lib.hid ((HM1.out.below HB5.out).below bel)
      have GY:=Lib.hid ((GR.out.below HB5.out GR.out.low).below bel (by have:=GR.out.low;have:=Z5.out;omega))
      obtain ⟨A7,c7,rfl,p7,q7,n7⟩:=own_form hown
      have Hown:=Lib.hid hown
      have hwlq:=wordsQ_len x q
      rw [← HM2.out,← HP2.out,wordsQ_all,HP2.out,HM2.out] at hwlq
      obtain ⟨r,hr⟩:∃ r,(wordsL x).length=r:=⟨_,rfl⟩
      rw [hr] at hown Hown hwlq p7 n7 ⊢
      have kw:IntKind.i64.wrap ((k:Int)+1)=(k:Int)+1:=IntWalk.i64_in _ (by omega)
      clear bel hown
      have hst:=HC.out.step k hlt
      rw [HX.out] at hst
      by_cases hsk:skipL x
      ·have hT1:T (k+1)=T k∧St (k+1)=St k:=by
        rcases hst with h | h
        ·exact h.2
        ·exact absurd hsk h.1
       have HN1:=Lib.hid (show MidK D T St w1 (k+1) wy from by unfold MidK;rw [hT1.1,hT1.2];exact HMy.out)
       clear hst hT1
       rcases hsk with h0 | h0
       ·rw [h0] at hr
        obtain rfl:r=0:=hr.symm
        clear h0 Hown
        go_wp2_with fail
        go_roundw
        case rel=>first | exact ⟨k+1,by go_num,by omega,HN1.out⟩ | ((repeat apply Exists.intro);exact ⟨⟨k+1,by go_num,by omega,HN1.out⟩,rfl⟩)
        case measure=>simp [intOf];omega
       ·have hr0:0<r:=by
         rw [← hr]
         cases hw:wordsL x with
         | nil=>rw [hw] at h0;cases h0
         | cons _ _=>exact Nat.zero_lt_succ _
        obtain ⟨g7,rfl,hg7,hcell⟩:=own_first Hown.out hr0
        have hc0:wy.cell? ⟨g7,0,none⟩=some (.string (ar [35])):=by
         refine hcell 0 _ ?_
         rw [List.head?_eq_getElem?] at h0
         rw [List.getElem?_map,h0]
         rfl
        obtain ⟨t7,ht7⟩:∃ t,ar [35]=t:=⟨_,rfl⟩
        rw [ht7] at hc0
        have eq7:(t7.toList == [35])=true:=by rw [← ht7];exact lit_yes _
        have r0:((r:Int)==0)=false:=by simp;omega
        have r1:(0:Int)<r:=by omega
        clear h0 Hown hcell ht7 hr
        go_wp2_with fail
        go_roundw
        case rel=>first | exact ⟨k+1,by go_num,by omega,HN1.out⟩ | ((repeat apply Exists.intro);exact ⟨⟨k+1,by go_num,by omega,HN1.out⟩,rfl⟩)
        case measure=>simp [intOf];omega
      ·obtain ⟨o,ho,ha,hT⟩:∃ o,OutOK o∧AnsR (St k) ((wordsL x).map ar) o (St (k+1))∧T (k+1)=T k ++ [o.text]:=by
        rcases hst with h | h
        ·exact absurd h.1 hsk
        ·exact h.2
       have hr0:0<r:=by have:=words_pos hsk;rw [List.length_map,hr] at this;exact this
       obtain ⟨g7,rfl,hg7,hcell⟩:=own_first Hown.out hr0
       obtain ⟨y7,hy7⟩:∃ y,(wordsL x).getD 0 []=y:=⟨_,rfl⟩
       have hcj:∀ j,j<r→wy.cell? ⟨g7,j,none⟩=some (.string (((wordsL x).map ar).getD j ⟨#[]⟩))∧(((wordsL x).map ar).getD j ⟨#[]⟩).size≤1048576:=fun j hj=>by
        refine ⟨hcell j _ ?_,words_size x (by have:=Hxz.out;omega) j (by rw [List.length_map,hr];exact hj)⟩
        rw [List.getElem?_map,List.getD_eq_getElem?_getD,List.getElem?_map,List.getElem?_eq_getElem (by rw [hr];exact hj)]
        rfl
       have hc0:wy.cell? ⟨g7,0,none⟩=some (.string (ar y7)):=by
        rw [(hcj 0 hr0).1,← hy7,List.getD_eq_getElem?_getD,List.getD_eq_getElem?_getD,List.getElem?_map,List.getElem?_eq_getElem (by rw [hr];exact hr0)]
        rfl
       have hy35:y7 ≠ [35]:=fun e=>hsk (.inr (by
        rw [List.head?_eq_getElem?]
        rw [List.getD_eq_getElem?_getD,List.getElem?_eq_getElem (by rw [hr];exact hr0)] at hy7
        rw [List.getElem?_eq_getElem (by rw [hr];exact hr0),← e,← hy7]
        rfl))
       obtain ⟨t7,ht7⟩:∃ t,ar y7=t:=⟨_,rfl⟩
       rw [ht7] at hc0
       have eq7:(t7.toList == [35])=false:=lit_no (fun e=>hy35 (ar_inj (ht7.trans e)))
       have r0:((r:Int)==0)=false:=by simp;omega
       have r1:(0:Int)<r:=by omega
       have HA:=Lib.hid (ans_mid HMy.out GY.out ha (some ⟨g7,0,none⟩) r c7 (by rw [List.length_map,hr]) (by omega) (fun j hj=>⟨g7,0,rfl,hg7,by rw [Nat.zero_add];exact (hcj j hj).1,(hcj j hj).2⟩))
       have hlen:(runT (T k)).length+1000001≤140737488355328:=by
        have h1:=runT_len (T k) (fun t ht=>(HC.out.each k (by omega) t ht).2)
        have h2:=HC.out.le k (by omega)
        have h3:1000001 * (T k).length≤1000001 * 200:=Nat.mul_le_mul_left _ (by omega)
        omega
       have hts:=Out.small ho
       obtain ⟨t8,ht8⟩:∃ t,o.text=t:=⟨_,rfl⟩
       rw [ht8] at HA hts hT
       have HT8:=Lib.hid (show runT (T k)++t8.data.toList ++ [10]=runT (T (k+1)) by rw [hT,runT_app,runT_one,List.append_assoc])
       have Hlen:=Lib.hid hlen
       have Hts:=Lib.hid hts
       have h8:t8.data.toList.length=t8.size:=by rw [Array.length_toList];rfl
       have H8:=Lib.hid h8
       clear h8 hlen hts hT ht8 ho ha hst Hown hcell hcj ht7 hy35 hy7 hr hsk
       go_wp2_with fail
       refine HA.out.mono ?_
       rintro e w8 ⟨rfl,hm8⟩
       have HS8:=Lib.hid (str_mid hm8 t8 (by have:=Hlen.out;have:=Hts.out;omega))
       clear hm8
       go_wp2_with fail
       refine HS8.out.mono ?_
       rintro e w9 ⟨rfl,hm9⟩
       have HS9:=Lib.hid (byte_mid hm9 (by have:=Hlen.out;have:=Hts.out;have:=H8.out;rw [List.length_append];omega))
       clear hm9
       go_wp2_with fail
       refine HS9.out.mono ?_
       rintro e wz ⟨rfl,hmz⟩
       have HN1:=Lib.hid (show MidK D T St w1 (k+1) wz from by unfold MidK;rw [← HT8.out];exact hmz)
       clear hmz
       go_wp2_with fail
       go_roundw
       case rel=>first | exact ⟨k+1,by go_num,by omega,HN1.out⟩ | ((repeat apply Exists.intro);exact ⟨⟨k+1,by go_num,by omega,HN1.out⟩,rfl⟩)
       case measure=>simp [intOf];omega
   ·obtain rfl:k=n:=by omega
    have lq:¬ (k:Int)<k:=by omega
    have m4:=HM1.out.size.2
    obtain ⟨fd,fo,m1,m2,m3,_⟩:=HM1.out
    have HS:=Lib.hid (Tryz.Builder_String_any D (D+1) (runT (T k)) wr m2.is (by have:=m4.size;have:=Z2.out;omega))
    have HB4:=Lib.hid m4
    clear m1 m2 m3 m4
    go_wp2_with fail
    refine HS.out.mono ?_
    rintro e w5 ⟨rfl,hb5⟩
    go_wp2_with fail
    go_ret
    have hz2:=Z2.out
    exact ⟨by rw [← HR3.out];rfl,HB1.out.trans ((HB4.out.trans hb5).mono (by omega))⟩
end Go.Proofs.YtnaebigoknfndaaGreatDoor
namespace Go.Proofs.YtnaebigoknfndaaGreatDoor
open Go Go.RowKit
theorem indexL_none {c:UInt8}:∀ {l:Bs},c∉l→Lib.index l [c] = -1
 | [],_=>by simp [Lib.index]
 | b :: l,h=>by
   have h1:b≠c:=fun x=>h (by rw [x];exact List.mem_cons_self)
   rw [index_next h1,indexL_none (fun x=>h (List.mem_cons_of_mem _ x))]
   rfl
theorem indexL_hit {c:UInt8}:∀ {a:Bs} (r:Bs),c∉a→Lib.index (a++c :: r) [c]=(a.length:Int)
 | [],r,_=>index_head c r
 | b :: a,r,h=>by
   have h1:b≠c:=fun x=>h (by rw [x];exact List.mem_cons_self)
   rw [List.cons_append,index_next h1,indexL_hit r (fun x=>h (List.mem_cons_of_mem _ x))]
   rw [if_neg (by first | (simp;done) | (simp;omega))]
   simp
theorem cut_ok (l:Bs) (h0:l ≠ []) (hz:l.length≤1048576):∃ a r,linesL l=a :: linesL r∧a.length≤l.length∧r.length<l.length∧∀ w,GOK w →
  Calls Tryz.prog 16 #[.string (ar l),.string ⟨#[10]⟩] w fun e w'=>∃ b,e=.returned (.tuple #[.string (ar a),.string (ar r),.bool b])∧Below w.heap.size w w':=by
 have key:∀ a r b,Lib.cut l [10]=(a,r,b)→∀ w,GOK w→Calls Tryz.prog 16 #[.string (ar l),.string ⟨#[10]⟩] w fun e w'=>∃ b,e=.returned (.tuple #[.string (ar a),.string (ar r),.bool b])∧Below w.heap.size w w':=by
  intro a r b hc w g
  obtain ⟨mm,hmm⟩:=g.mlen
  refine (Tryz.strings_Cut (ar l) ⟨#[10]⟩ mm w (by rw [ar_size];omega) hmm).mono ?_
  rw [show (ar l).data.toList=l from rfl,show (ByteArray.mk #[10]).data.toList = [10] from rfl,hc]
  rintro e w' ⟨rfl,n,rfl⟩
  exact ⟨b,rfl,⟨rfl,rfl,rfl,Nat.le_refl _,fun _ _=>rfl⟩⟩
 rcases first_c 10 l with h | ⟨a,r,rfl,h⟩
 ·refine ⟨l,[],by rw [linesL_none h h0,linesL_nil],Nat.le_refl _,List.length_pos_iff.2 h0,key l [] false ?_⟩
  unfold Lib.cut
  rw [indexL_none h,if_neg (by decide)]
 ·refine ⟨a,r,linesL_hit r h,by simp,by simp;omega,key a r true ?_⟩
  unfold Lib.cut
  rw [indexL_hit r h,if_pos (by omega)]
  simp
theorem extract_one (a:Bs) (q:Nat) (b:UInt8) (hq:q<a.length) (hb:a.getD q 0=b):(ar a).extract q (q+1)=ar [b]:=by
 apply ByteArray.ext
 apply Array.toList_inj.1
 rw [Lib.extract_data]
 show (a.drop q).take (q+1 - q) = [b]
 rw [Nat.add_sub_cancel_left,List.drop_eq_getElem_cons hq]
 rw [List.getD_eq_getElem?_getD,List.getElem?_eq_getElem hq] at hb
 rw [show a[q]=b from hb]
 rfl
def strN:Value→Nat
 | .string s=>s.size
 | _=>0
theorem info_strs:(Tryz.prog.info? 26).map (fun i=>(i.zero,i.size,i.bytes))=some (some (.slice none 0 0),1,24):=by kernel_rfl
def AtQ (a:Bs) (q:Nat) (W:List Bs) (u:Bs):Prop:=(q≤a.length→∃ Q,cutL 32 [] (a.take q)=Q ++ [u]∧W=Q.filter (fun x=>x ≠ []))∧(q=a.length+1→W=wordsL a)∧W.length≤q∧u.length≤q
theorem AtQ.start (a:Bs):AtQ a 0 [] []:=⟨fun _=>⟨[],by simp [cutL],rfl⟩,fun h=>by omega,Nat.le_refl _,Nat.le_refl _⟩
theorem take_more {a:Bs} {q:Nat} (hq:q<a.length):a.take (q+1)=a.take q ++ [a.getD q 0]:=by
 rw [List.take_add_one,List.getD_eq_getElem?_getD,List.getElem?_eq_getElem hq];rfl
theorem AtQ.byte {a:Bs} {q:Nat} {W:List Bs} {u:Bs} (h:AtQ a q W u) (hq:q<a.length) (hb:a.getD q 0≠32):AtQ a (q+1) W (u ++ [a.getD q 0]):=by
 obtain ⟨Q,h1,h2⟩:=h.1 (by omega)
 refine ⟨fun _=>⟨Q,?_,h2⟩,fun h=>by omega,by have:=h.2.2.1;omega,by have:=h.2.2.2;simp;omega⟩
 rw [take_more hq]
 obtain ⟨Q2,u2,k1,k2⟩:=cutL_snoc 32 [] (a.getD q 0) (a.take q)
 rw [h1] at k1
 obtain ⟨rfl,e⟩:=List.append_inj' k1 rfl
 injection e with e
 rw [k2,if_neg hb,e]
def endW (W:List Bs) (u:Bs):List Bs:=if u = [] then W else W ++ [u]
theorem endW_eq (Q:List Bs) (u:Bs):(Q ++ [u]).filter (fun x=>x ≠ [])=endW (Q.filter (fun x=>x ≠ [])) u:=by
 rw [List.filter_append]
 unfold endW
 by_cases h:u = []
 ·rw [if_pos h];simp [h]
 ·rw [if_neg h];simp [h]
theorem endW_len {W:List Bs} {u:Bs} {q:Nat} (h:W.length≤q):(endW W u).length≤q+1:=by
 unfold endW
 split
 ·omega
 ·simp;omega
theorem AtQ.space {a:Bs} {q:Nat} {W:List Bs} {u:Bs} (h:AtQ a q W u) (hq:q<a.length) (hb:a.getD q 0=32):AtQ a (q+1) (endW W u) []:=by
 obtain ⟨Q,h1,h2⟩:=h.1 (by omega)
 refine ⟨fun _=>⟨Q ++ [u],?_,by rw [endW_eq,h2]⟩,fun h=>by omega,endW_len h.2.2.1,Nat.zero_le _⟩
 rw [take_more hq]
 obtain ⟨Q2,u2,k1,k2⟩:=cutL_snoc 32 [] (a.getD q 0) (a.take q)
 rw [h1] at k1
 obtain ⟨rfl,e⟩:=List.append_inj' k1 rfl
 injection e with e
 rw [k2,if_pos hb,← e]
 simp
theorem AtQ.last {a:Bs} {W:List Bs} {u:Bs} (h:AtQ a a.length W u):AtQ a (a.length+1) (endW W u) []:=by
 obtain ⟨Q,h1,h2⟩:=h.1 (Nat.le_refl _)
 rw [List.take_length] at h1
 refine ⟨fun h=>by omega,fun _=>?_,endW_len h.2.2.1,Nat.zero_le _⟩
 unfold wordsL
 rw [h1,endW_eq,h2]
theorem keptL_snoc (D:List Bs) (a:Bs):keptL (D ++ [a])=if skipL a then keptL D else keptL D ++ [a]:=by
 unfold keptL
 rw [List.filter_append]
 by_cases h:skipL a
 ·rw [if_pos h];simp [h]
 ·rw [if_neg h];simp [h]
theorem lines_ok (l:Bs) (hz:l.length≤65536) (n:Nat) (hn:(linesL l).length=n) (w:World) (g:GOK w) :
  Calls Tryz.prog 6 #[.string (ar l)] w fun e w'=>∃ A c,e=.returned (.tuple #[.slice A (keptL (linesL l)).length c,.bool (decide ((n:Int)≤200))])∧Below w.heap.size w w':=by
 have h10:=g.low
 have HG:=Lib.hid g
 obtain ⟨ll,hll⟩:∃ n,l.length=n:=⟨_,rfl⟩
 rw [hll] at hz
 have Hll:=Lib.hid hll
 have HN:=Lib.hid hn
 obtain ⟨s0,hs0⟩:∃ s,ar l=s:=⟨_,rfl⟩
 have Hs0:=Lib.hid hs0
 rw [hs0]
 clear g hn hs0 hll
 go_enter Tryz.func6,Tryz.ntmps6
 go_wp2_with fail
 go_loopw [0,4,5] (fun t v i wr=>∃ (D:List Bs) (r:Bs) (d j:Nat) (xs:List Value),t=.string (ar r)∧i=.int .i64 d∧linesL l=D++linesL r∧D.length=d∧d+r.length≤ll∧(keptL D).length=j∧wr.ownsRow w.heap.size 26 1 v j xs∧Below w.heap.size w wr) (fun t _ _ _=>strN t)
 case atStart=>exact ⟨[],l,0,0,[],by rw [Hs0.out],rfl,rfl,rfl,by rw [Hll.out];omega,rfl,World.ownsRow_nil _ _ _ _,Below.refl _ _⟩
 case round=>
  obtain ⟨D,r,d,j,xs,rfl,rfl,hL,hd,hdr,hj,hown,bel⟩:=hrel
  obtain ⟨Av,cv,rfl,pv1,qv1,nv1⟩:=own_form hown
  obtain ⟨s1,hs1⟩:∃ s1,ar r=s1:=⟨_,rfl⟩
  rw [hs1]
  have hz1:=bel.size
  by_cases hr0:r = []
  ·have eq1:(s1.toList == [])=true:=by rw [← hs1,hr0];exact lit_yes []
   rw [hr0,linesL_nil,List.append_nil] at hL
   have hdn:d=n:=by rw [← hd,← HN.out,hL]
   have HR:=Lib.hid (show (keptL (linesL l)).length=j by rw [hL,hj])
   have HB:=Lib.hid bel
   clear hL hd hdr hj hown bel hs1 hr0
   subst hdn
   go_wp2_with fail
   refine bodyPost_ret (v:=.tuple #[.slice Av j cv,.bool (decide ((d:Int)≤200))]) (by simp [results,Tryz.results6,go_sem]) rfl ?_
   exact ⟨Av,cv,by rw [HR.out],HB.out⟩
  ·have eq1:(s1.toList == [])=false:=lit_no (fun e=>hr0 (ar_inj (hs1.trans e)))
   obtain ⟨a,r2,k1,k2,k3,HC⟩:=cut_ok r hr0 (by omega)
   have gr:GOK wr:=HG.out.below bel h10
   have HC1:=Lib.hid (HC wr gr)
   rw [hs1] at HC1
   have hdw:IntKind.i64.wrap ((d:Int)+1)=(d:Int)+1:=IntWalk.i64_in _ (by omega)
   have HL:=Lib.hid hL
   have HD:=Lib.hid hd
   have HJ:=Lib.hid hj
   have HK1:=Lib.hid k1
   have HO:=Lib.hid hown
   have HB:=Lib.hid bel
   have HK3:=Lib.hid (show r2.length<s1.size∧s1.size=r.length by rw [← hs1,ar_size];exact ⟨k3,rfl⟩)
   obtain ⟨na,hna⟩:∃ n,a.length=n:=⟨_,rfl⟩
   have hnaz:na≤65536:=by omega
   obtain ⟨s2,hs2⟩:∃ s,ar a=s:=⟨_,rfl⟩
   have hs2z:s2.size=na:=by rw [← hs2,ar_size,hna]
   rw [hs2] at HC1
   obtain ⟨s3,hs3⟩:∃ s,ar r2=s:=⟨_,rfl⟩
   rw [hs3] at HC1
   have HS2:=Lib.hid hs2
   have HS3:=Lib.hid hs3
   have HNA:=Lib.hid hna
   have HDR:=Lib.hid hdr
   clear hL hd hdr hj hown bel hs1 hr0 k1 k2 k3 HC gr hna hs2 hs3 hz1
   go_wp2_with fail
   refine HC1.out.mono ?_
   rintro e w1 ⟨bb,rfl,hb1⟩
   have HB1:=Lib.hid hb1
   clear hb1
   go_wp2_with fail
   obtain ⟨wx,rfl⟩:∃ z:World,z=wr:=⟨_,rfl⟩
   obtain ⟨i0,hi,hz0,hz1,hz2⟩:=info_parts info_str
   go_loopw [9,10,11] (fun v t i wr=>∃ (W:List Bs) (u:Bs) (q m:Nat),i=.int .i64 q∧t=.string (ar u)∧q≤na+1∧AtQ a q W u∧W.length=m∧wr.ownsRow w1.heap.size 9 1 v m (W.map fun y=>Value.string (ar y))∧Below w1.heap.size w1 wr) (fun _ _ i _=>na+2 - (intOf i).toNat)
   case atStart=>exact ⟨[],[],0,0,rfl,rfl,Nat.zero_le _,AtQ.start a,rfl,World.ownsRow_nil _ _ _ _,Below.refl _ _⟩
   case round=>
    obtain ⟨W,u,q,m,rfl,rfl,hq,hat,hW,hown,bel⟩:=hrel
    have hwl:=hat.2.2.1
    have hul:=hat.2.2.2
    rw [hW] at hwl
    obtain ⟨t1,ht1⟩:∃ t1,ar u=t1:=⟨_,rfl⟩
    have ht1z:t1.size=u.length:=by rw [← ht1,ar_size]
    have HT1:=Lib.hid ht1
    rw [ht1]
    have hsz5:=bel.size
    have qw:IntKind.i64.wrap ((q:Int)+1)=(q:Int)+1:=IntWalk.i64_in _ (by omega)
    obtain ⟨Aw,cw,rfl,pw1,qw1,nw1⟩:=own_form hown
    have HW:=Lib.hid hW
    have HA:=Lib.hid hat
    have HOw:=Lib.hid hown
    have HB2:=Lib.hid bel
    clear hW hat ht1 hown bel
    have lq0:(0:Int)≤q:=by omega
    by_cases hlt:q<na
    ·have lq:(q:Int)<na:=by omega
     have lq1:(q:Int)≤na:=by omega
     have hlt2:q<s2.size:=by omega
     obtain ⟨b,hb⟩:∃ b,a.getD q 0=b:=⟨_,rfl⟩
     have hsb:s2[q]'hlt2=b:=by
      have e:∀ (z:ByteArray) (h:q<z.size),ar a=z→z[q]'h=b:=by
       intro z h e;subst e
       rw [← hb,List.getD_eq_getElem?_getD,List.getElem?_eq_getElem (by rw [HNA.out];exact hlt)]
       rfl
      exact e s2 hlt2 HS2.out
     obtain ⟨X,hX⟩:∃ X,b.toNat=X:=⟨_,rfl⟩
     have hXb:=UInt8.toNat_lt b
     rw [hX] at hXb
     have HX:=Lib.hid hX
     have HBq:=Lib.hid hb
     by_cases h32:b=32
     ·have e32:X=32:=by rw [← hX,h32];rfl
      subst e32
      have HN1:=Lib.hid (HA.out.space (by rw [HNA.out];exact hlt) (by rw [hb];exact h32))
      clear hb h32
      by_cases hu0:u = []
      ·have eqt:(t1.toList == [])=true:=by rw [← HT1.out,hu0];exact lit_yes []
       have HN2:=Lib.hid (show AtQ a (q+1) W [] by have h:=HN1.out;unfold endW at h;rw [if_pos hu0] at h;exact h)
       clear hu0
       go_wp2_with fail
       go_roundw
       case rel=>first | exact ⟨W,[],q+1,m,by go_num,rfl,by omega,HN2.out,HW.out,HOw.out,HB2.out⟩ | ((repeat apply Exists.intro);exact ⟨⟨W,[],q+1,m,by go_num,rfl,by omega,HN2.out,HW.out,HOw.out,HB2.out⟩,rfl⟩)
       case measure=>first | (simp [intOf];done) | (simp [intOf];omega)
      ·have eqt:(t1.toList == [])=false:=lit_no (fun e=>hu0 (ar_inj (HT1.out.trans e)))
       have HN2:=Lib.hid (show AtQ a (q+1) (W ++ [u]) [] by have h:=HN1.out;unfold endW at h;rw [if_neg hu0] at h;exact h)
       have hown:=HOw.out
       clear hu0
       go_wp2_with (at_builtin;go_loud (refine wpList_append_own _ rfl _ _ 26 rfl (w1.heap.size) 9 i0 (.string ⟨#[]⟩) 1 16 Tryz.underlying26 hi hz0 hz1 hz2 rfl (by decide) _ _ _ rfl (World.ownsRow.alloc hown _) ⟨wr.heap.size,0,none⟩ 1 1 [.string t1] rfl rfl (app1_cells _ _ _) (one_str _) (by unfold maxLen;omega) (by omega) (by simp;omega) ?_))
       intro v' w6 own6 gr6 _
       have own2:w6.ownsRow w1.heap.size 9 1 v' (m+1) ((W ++ [u]).map fun y=>Value.string (ar y)):=by
        rw [List.map_append]
        simpa [HT1.out] using own6
       have grw:=(HB2.out.alloc (by omega) _).grown gr6 (by simp;omega) (fun g hg=>(hown.lt g hg).1)
       have HO3:=Lib.hid own2
       have HB3:=Lib.hid grw
       have HW3:=Lib.hid (show (W ++ [u]).length=m+1 by rw [List.length_append,HW.out];rfl)
       clear own6 gr6 own2 hown grw
       go_wp2_with fail
       go_roundw
       case rel=>first | exact ⟨W ++ [u],[],q+1,m+1,by go_num,rfl,by omega,HN2.out,HW3.out,HO3.out,HB3.out⟩ | ((repeat apply Exists.intro);exact ⟨⟨W ++ [u],[],q+1,m+1,by go_num,rfl,by omega,HN2.out,HW3.out,HO3.out,HB3.out⟩,rfl⟩)
       case measure=>first | (simp [intOf];done) | (simp [intOf];omega)
     ·have e32:((X:Int)==32)=false:=by
       have:X≠32:=fun e=>h32 (by rw [e] at hX;exact UInt8.toNat_inj.1 hX)
       simp;omega
      have HN1:=Lib.hid (HA.out.byte (by rw [HNA.out];exact hlt) (by rw [hb];exact h32))
      rw [hb] at HN1
      have hex:s2.extract q (q+1)=ar [b]:=by rw [← HS2.out];exact extract_one a q b (by rw [HNA.out];exact hlt) hb
      obtain ⟨t2,ht2⟩:∃ t2,ar (u ++ [b])=t2:=⟨_,rfl⟩
      have hap:t1++ar [b]=t2:=by rw [← ht2,← HT1.out];apply ByteArray.ext;simp [ar]
      obtain ⟨t3,ht3⟩:∃ t3,ar [b]=t3:=⟨_,rfl⟩
      rw [ht3] at hex hap
      have padd:=strAdd (show t1.size+t3.size≤1000000 by rw [← ht3,ar_size,ht1z];simp;omega) hap
      have HT2:=Lib.hid ht2
      clear hb h32 ht2 ht3 hap
      go_wp2_with fail
      go_roundw
      case rel=>first | exact ⟨W,u ++ [b],q+1,m,by go_num,by rw [HT2.out],by omega,HN1.out,HW.out,HOw.out,HB2.out⟩ | ((repeat apply Exists.intro);exact ⟨⟨W,u ++ [b],q+1,m,by go_num,by rw [HT2.out],by omega,HN1.out,HW.out,HOw.out,HB2.out⟩,rfl⟩)
      case measure=>first | (simp [intOf];done) | (simp [intOf];omega)
    ·by_cases hqe:q=na
     ·subst hqe
      have lq:¬ (q:Int)<q:=by omega
      have lq1:(q:Int)≤q:=by omega
      have HN1:=Lib.hid (show AtQ a (q+1) (endW W u) [] by have h:=HA.out;rw [← HNA.out] at h ⊢;exact h.last)
      by_cases hu0:u = []
      ·have eqt:(t1.toList == [])=true:=by rw [← HT1.out,hu0];exact lit_yes []
       have HN2:=Lib.hid (show AtQ a (q+1) W [] by have h:=HN1.out;unfold endW at h;rw [if_pos hu0] at h;exact h)
       clear hu0
       go_wp2_with fail
       go_roundw
       case rel=>first | exact ⟨W,[],q+1,m,by go_num,rfl,by omega,HN2.out,HW.out,HOw.out,HB2.out⟩ | ((repeat apply Exists.intro);exact ⟨⟨W,[],q+1,m,by go_num,rfl,by omega,HN2.out,HW.out,HOw.out,HB2.out⟩,rfl⟩)
       case measure=>first | (simp [intOf];done) | (simp [intOf];omega)
      ·have eqt:(t1.toList == [])=false:=lit_no (fun e=>hu0 (ar_inj (HT1.out.trans e)))
       have HN2:=Lib.hid (show AtQ a (q+1) (W ++ [u]) [] by have h:=HN1.out;unfold endW at h;rw [if_neg hu0] at h;exact h)
       have hown:=HOw.out
       clear hu0
       go_wp2_with (at_builtin;go_loud (refine wpList_append_own _ rfl _ _ 26 rfl (w1.heap.size) 9 i0 (.string ⟨#[]⟩) 1 16 Tryz.underlying26 hi hz0 hz1 hz2 rfl (by decide) _ _ _ rfl (World.ownsRow.alloc hown _) ⟨wr.heap.size,0,none⟩ 1 1 [.string t1] rfl rfl (app1_cells _ _ _) (one_str _) (by unfold maxLen;omega) (by omega) (by simp;omega) ?_))
       intro v' w6 own6 gr6 _
       have own2:w6.ownsRow w1.heap.size 9 1 v' (m+1) ((W ++ [u]).map fun y=>Value.string (ar y)):=by
        rw [List.map_append]
        simpa [HT1.out] using own6
       have grw:=(HB2.out.alloc (by omega) _).grown gr6 (by simp;omega) (fun g hg=>(hown.lt g hg).1)
       have HO3:=Lib.hid own2
       have HB3:=Lib.hid grw
       have HW3:=Lib.hid (show (W ++ [u]).length=m+1 by rw [List.length_append,HW.out];rfl)
       clear own6 gr6 own2 hown grw
       go_wp2_with fail
       go_roundw
       case rel=>first | exact ⟨W ++ [u],[],q+1,m+1,by go_num,rfl,by omega,HN2.out,HW3.out,HO3.out,HB3.out⟩ | ((repeat apply Exists.intro);exact ⟨⟨W ++ [u],[],q+1,m+1,by go_num,rfl,by omega,HN2.out,HW3.out,HO3.out,HB3.out⟩,rfl⟩)
       case measure=>first | (simp [intOf];done) | (simp [intOf];omega)
     ·obtain rfl:q=na+1:=by omega
      have lq:¬ ((na+1:Nat):Int)≤na:=by omega
      have hWa:W=wordsL a:=HA.out.2.1 (by rw [HNA.out])
      obtain ⟨wy,rfl⟩:∃ z:World,z=wr:=⟨_,rfl⟩
      have hbw:Below wx.heap.size wx wy:=HB1.out.trans (HB2.out.mono HB1.out.size)
      have HOy:=Lib.hid (own_below HO.out hbw)
      have HBy:=Lib.hid (HB.out.trans (hbw.mono HB.out.size))
      have hL2:linesL l=(D ++ [a])++linesL r2:=by rw [HL.out,HK1.out,List.append_assoc];rfl
      have HL2:=Lib.hid hL2
      have HD2:=Lib.hid (show (D ++ [a]).length=d+1 by rw [List.length_append,HD.out];rfl)
      have HR2:=Lib.hid (show d+1+r2.length≤ll by have:=HDR.out;have:=HK3.out;omega)
      have HSt:=Lib.hid (show strN (.string s3)<strN (.string s1) by
       show s3.size<s1.size
       rw [← HS3.out,ar_size];exact HK3.out.1)
      by_cases hsk:skipL a
      ·have HJ2:=Lib.hid (show (keptL (D ++ [a])).length=j by rw [keptL_snoc,if_pos hsk,HJ.out])
       rcases hsk with h0 | h0
       ·obtain rfl:m=0:=by rw [← HW.out,hWa,h0];rfl
        clear hL2 hWa h0 hbw
        go_wp2_with fail
        go_roundw
        case rel=>first | exact ⟨D ++ [a],r2,d+1,j,xs,by rw [HS3.out],by go_num,HL2.out,HD2.out,HR2.out,HJ2.out,HOy.out,HBy.out⟩ | ((repeat apply Exists.intro);exact ⟨⟨D ++ [a],r2,d+1,j,xs,by rw [HS3.out],by go_num,HL2.out,HD2.out,HR2.out,HJ2.out,HOy.out,HBy.out⟩,rfl⟩)
        case measure=>exact HSt.out
       ·have hm0:0<m:=by
         rw [← HW.out,hWa]
         cases hw:wordsL a with
         | nil=>rw [hw] at h0;cases h0
         | cons _ _=>exact Nat.zero_lt_succ _
        obtain ⟨g7,rfl,hg7,hcell⟩:=own_first HOw.out hm0
        have hc0:wy.cell? ⟨g7,0,none⟩=some (.string (ar [35])):=by
         refine hcell 0 _ ?_
         rw [List.head?_eq_getElem?] at h0
         rw [List.getElem?_map,hWa,h0]
         rfl
        obtain ⟨t7,ht7⟩:∃ t,ar [35]=t:=⟨_,rfl⟩
        rw [ht7] at hc0
        have eq7:(t7.toList == [35])=true:=by rw [← ht7];exact lit_yes _
        have r1:(0:Int)<m:=by omega
        clear h0 hcell ht7 hL2 hWa hbw
        go_wp2_with fail
        go_roundw
        case rel=>first | exact ⟨D ++ [a],r2,d+1,j,xs,by rw [HS3.out],by go_num,HL2.out,HD2.out,HR2.out,HJ2.out,HOy.out,HBy.out⟩ | ((repeat apply Exists.intro);exact ⟨⟨D ++ [a],r2,d+1,j,xs,by rw [HS3.out],by go_num,HL2.out,HD2.out,HR2.out,HJ2.out,HOy.out,HBy.out⟩,rfl⟩)
        case measure=>exact HSt.out
      ·have HJ2:=Lib.hid (show (keptL (D ++ [a])).length=j+1 by rw [keptL_snoc,if_neg hsk,List.length_append,HJ.out];rfl)
       have hm0:0<m:=by
        rw [← HW.out,hWa]
        cases hw:wordsL a with
        | nil=>exact absurd (.inl hw) hsk
        | cons _ _=>exact Nat.zero_lt_succ _
       obtain ⟨g7,rfl,hg7,hcell⟩:=own_first HOw.out hm0
       obtain ⟨y7,hy7⟩:∃ y,(wordsL a)[0]? = some y:=⟨_,List.getElem?_eq_getElem (by rw [← hWa,HW.out];exact hm0)⟩
       have hc0:wy.cell? ⟨g7,0,none⟩=some (.string (ar y7)):=by
        refine hcell 0 _ ?_
        rw [List.getElem?_map,hWa,hy7]
        rfl
       have hy35:y7 ≠ [35]:=fun e=>hsk (.inr (by rw [List.head?_eq_getElem?,hy7,e]))
       obtain ⟨t7,ht7⟩:∃ t,ar y7=t:=⟨_,rfl⟩
       rw [ht7] at hc0
       have eq7:(t7.toList == [35])=false:=lit_no (fun e=>hy35 (ar_inj (ht7.trans e)))
       have r1:(0:Int)<m:=by omega
       have hjd:j≤ll:=by
        have h1:(keptL D).length≤D.length:=List.length_filter_le _ _
        rw [HJ.out,HD.out] at h1
        have:=HDR.out
        omega
       obtain ⟨i1,hi1,hy0,hy1,hy2⟩:=info_parts info_strs
       have hownY:=HOy.out
       have hwz:w.heap.size≤wy.heap.size:=HBy.out.size
       clear hcell ht7 hL2 hWa hbw hy35 hy7 hsk
       go_wp2_with (at_builtin;go_loud (refine wpList_append_own _ rfl _ _ 23 rfl (w.heap.size) 26 i1 (.slice none 0 0) 1 24 Tryz.underlying23 hi1 hy0 hy1 hy2 rfl (by decide) _ _ _ rfl (World.ownsRow.alloc hownY _) ⟨wy.heap.size,0,none⟩ 1 1 [.slice (some ⟨g7,0,none⟩) m cw] rfl rfl (app1_cells _ _ _) (by intro u hu;simp at hu;subst hu;rfl) (by unfold maxLen;omega) (by omega) (by simp;omega) ?_))
       intro v' w6 own6 gr6 _
       have grw:=(HBy.out.alloc (by omega) _).grown gr6 (by simp;omega) (fun g hg=>(hownY.lt g hg).1)
       have HO6:=Lib.hid own6
       have HB6:=Lib.hid grw
       clear own6 gr6 hownY grw
       go_wp2_with fail
       go_roundw
       case rel=>first | exact ⟨D ++ [a],r2,d+1,j+1,xs ++ [.slice (some ⟨g7,0,none⟩) m cw],by rw [HS3.out],by go_num,HL2.out,HD2.out,HR2.out,HJ2.out,HO6.out,HB6.out⟩ | ((repeat apply Exists.intro);exact ⟨⟨D ++ [a],r2,d+1,j+1,xs ++ [.slice (some ⟨g7,0,none⟩) m cw],by rw [HS3.out],by go_num,HL2.out,HD2.out,HR2.out,HJ2.out,HO6.out,HB6.out⟩,rfl⟩)
       case measure=>exact HSt.out
end Go.Proofs.YtnaebigoknfndaaGreatDoor
namespace Go.Proofs.YtnaebigoknfndaaGreatDoor
open Go Go.RowKit
def runR (l:Bs) (T:Nat→List ByteArray):ByteArray:=if l.length≤65536∧(linesL l).length≤200 then ar (runT (T (linesL l).length)) else bigB
theorem run_any (l:Bs) (hz:l.length≤1048576) (T:Nat→List ByteArray) (St:Nat→DSt) (ch:Chain (linesL l) (linesL l).length T St) (w:World) (g:GOK w) :
  Calls Tryz.prog 5 #[.string (ar l)] w fun e w'=>e=.returned (.string (runR l T))∧Below w.heap.size w w':=by
 obtain ⟨Q,wl,hQ⟩:∃ Q wl,cutL 10 [] l=Q ++ [wl]:=⟨_,_,(List.dropLast_concat_getLast (cutL_ne 10 [] l)).symm⟩
 have hP:(Q ++ [wl]).length=Q.length+1:=by simp
 have hL:linesL l=if wl = [] then Q else Q ++ [wl]:=by unfold linesL;rw [hQ,dropE_snoc]
 refine run_walk l hz (Q ++ [wl]) hQ (Q.length+1) hP (linesL l).length wl ?_ rfl ?_ ?_ T St ch w g
 ·rw [Nat.add_sub_cancel,List.getD_eq_getElem?_getD,List.getElem?_append_right (Nat.le_refl _),Nat.sub_self];rfl
 ·rw [hL]
  split <;> simp
 ·intro j hj
  rw [hL] at hj ⊢
  split at hj
  ·rename_i h
   rw [if_pos h,List.getD_eq_getElem?_getD,List.getD_eq_getElem?_getD,List.getElem?_append_left hj]
  ·rename_i h
   rw [if_neg h]
theorem itoB_3:itoB 3=⟨#[51]⟩:=by
 unfold itoB Lib.itoa
 rw [if_neg (by decide),Lib.decDigits,dif_pos (by decide)]
 rfl
theorem itoB_4:itoB 4=⟨#[52]⟩:=by
 unfold itoB Lib.itoa
 rw [if_neg (by decide),Lib.decDigits,dif_pos (by decide)]
 rfl
theorem itoB_11:itoB 11=⟨#[49,49]⟩:=by
 unfold itoB Lib.itoa
 rw [if_neg (by decide),Lib.decDigits,dif_neg (by decide),Lib.decDigits,dif_pos (by decide)]
 rfl
theorem num_3:numW (ar [51])=some 3:=by
 have h:Lib.atoiAll (ar [51]).data.toList=.ok 3:=by rfl
 unfold numW
 rw [h]
 dsimp only
 rw [if_pos ⟨by decide,by decide,itoB_3.symm⟩]
theorem num_4:numW (ar [52])=some 4:=by
 have h:Lib.atoiAll (ar [52]).data.toList=.ok 4:=by rfl
 unfold numW
 rw [h]
 dsimp only
 rw [if_pos ⟨by decide,by decide,itoB_4.symm⟩]
def meanL:List ByteArray:=[ar [109,101,97,110],ar [51,44,52]]
theorem mean_list:pList meanL 1=some [3,4]:=by
 have h:partsB 44 (meanL.getD 1 ⟨#[]⟩) = [ar [51],ar [52]]:=partsB_cut 44 (ar [51,44,52])
 have h2:nums [ar [51],ar [52]] = [3,4]:=by
  simp only [nums,num_3,num_4]
 unfold pList
 rw [if_pos (by decide),h]
 dsimp only
 rw [h2]
 rfl
theorem mean_ans:AnsR S0 meanL (oneO 3 0) S0:=by
 have hLE:LE [3,4]=0:=by unfold LE;rw [if_neg (by decide),if_pos (by decide)]
 have ok:=sumsOK_of (l:=[3,4]) (LE_ok hLE).2 (LE_ok hLE).1
 have hR:=values_mean_of (L:=meanL) (k:=1) (ar [109,101,97,110]) rfl mean_list (by decide) (oneO 3 0) (oneO_ok (by decide) (by decide)) fun w p A c g hr hp hlt=>vmean_of [3,4] (by decide) hLE 3 0 (by decide) (fun w=>mean_ok _ _ _ 3 ok (by decide) (by decide) w) w p A c g hr hp hlt
 refine ans_val_ok S0 meanL (ar [109,101,97,110]) rfl (by decide) (by unfold wideF;decide) (by rw [ByteArray.toList_eq];rfl) ?_ hR rfl
 simp only [ByteArray.toList_eq]
 decide
theorem mean_text:(oneO 3 0).text=⟨#[111,107,32,51]⟩:=by
 unfold oneO
 rw [if_pos rfl]
 show toldT [3]=_
 simp only [toldT,List.foldl_cons,List.foldl_nil,itoB_3]
 rfl
end Go.Proofs.YtnaebigoknfndaaGreatDoor
namespace Go.Proofs.YtnaebigoknfndaaGreatDoor
open Go Go.RowKit
def litM:Bs:=[35,32,120,10,10,109,101,97,110,32,51,44,52,10]
def litR:Bs:=[114,111,111,116,32,49,55,10,114,111,111,116,32,45,49,10]
theorem litM_lines:linesL litM = [[35,32,120],[],[109,101,97,110,32,51,44,52]]:=by rfl
theorem litR_lines:linesL litR = [[114,111,111,116,32,49,55],[114,111,111,116,32,45,49]]:=by rfl
theorem chain_mean:Chain (linesL litM) (linesL litM).length (fun k=>if k≤2 then [] else [(oneO 3 0).text]) (fun _=>S0):=by
 rw [litM_lines]
 refine ⟨rfl,rfl,fun _ _=>S0_ok,fun k hk=>?_⟩
 have hk:k<3:=hk
 rcases (by omega:k=0∨k=1∨k=2) with rfl | rfl | rfl
 ·exact .inl ⟨by show skipL [35,32,120];decide,rfl,rfl⟩
 ·exact .inl ⟨by show skipL [];decide,rfl,rfl⟩
 ·exact .inr ⟨by show ¬ skipL [109,101,97,110,32,51,44,52];decide,oneO 3 0,oneO_ok (by decide) (by decide),mean_ans,rfl⟩
theorem run_mean (w:World) (g:GOK w):Calls Tryz.prog 5 #[.string ⟨#[35,32,120,10,10,109,101,97,110,32,51,44,52,10]⟩] w fun e w'=>e=.returned (.string ⟨#[111,107,32,51,10]⟩)∧Below w.heap.size w w':=by
 refine (run_any litM (by decide) _ _ chain_mean w g).mono ?_
 rintro e w' ⟨rfl,hb⟩
 refine ⟨?_,hb⟩
 unfold runR
 rw [if_pos (by rw [litM_lines];decide),litM_lines]
 show Ending.returned (.string (ar (runT [(oneO 3 0).text])))=_
 rw [mean_text]
 rfl
theorem txt_4:txt 4 = [52]:=txt_lt (by decide)
def rootL (x:Bs):List ByteArray:=[ar [114,111,111,116],ar x]
theorem great_17:pGreat (rootL [49,55]) 1=some 17:=by
 unfold pGreat
 rw [if_pos (by decide)]
 show greatW (ar [49,55])=some 17
 unfold greatW
 have hb:byts (ar [49,55]) = [49,55]:=rfl
 have hp:pv [49,55]=17:=rfl
 have hN:Num [49,55]:=⟨by unfold Dig;decide,by decide,by decide⟩
 rw [hb,hp,if_pos ⟨hN,by unfold U128;decide⟩]
theorem great_m:pGreat (rootL [45,49]) 1=none:=by
 unfold pGreat
 rw [if_pos (by decide)]
 show greatW (ar [45,49])=none
 unfold greatW
 have hb:byts (ar [45,49]) = [45,49]:=rfl
 rw [hb,if_neg (fun h=>by have:=h.1.1 45 (by decide);omega)]
theorem root_ans4:AnsR S0 (rootL [49,55]) (.txt (grT [4])) S0:=
 ans_root S0 _ (ar [114,111,111,116]) rfl (by decide) (by unfold wideF;decide) (by rw [ByteArray.toList_eq];rfl) great_17 rfl 4 ⟨by decide,by decide,by decide⟩ (by decide)
theorem root_ansE:AnsR S0 (rootL [45,49]) (.err 11) S0:=
 ans_root1 S0 _ (ar [114,111,111,116]) rfl (by decide) (by unfold wideF;decide) (by rw [ByteArray.toList_eq];rfl) great_m
theorem chain_root:Chain (linesL litR) (linesL litR).length (fun k=>if k=0 then [] else if k=1 then [(Out.txt (grT [4])).text] else [(Out.txt (grT [4])).text,(Out.err 11).text]) (fun _=>S0):=by
 rw [litR_lines]
 refine ⟨rfl,rfl,fun _ _=>S0_ok,fun k hk=>?_⟩
 have hk:k<2:=hk
 rcases (by omega:k=0∨k=1) with rfl | rfl
 ·refine .inr ⟨by show ¬ skipL [114,111,111,116,32,49,55];decide,.txt (grT [4]),⟨grT_okT [4],Nat.le_trans (grT_size [4] (fun y hy=>by rw [List.mem_singleton.1 hy];unfold U128;decide)) (by decide)⟩,root_ans4,rfl⟩
 ·exact .inr ⟨by show ¬ skipL [114,111,111,116,32,45,49];decide,.err 11,⟨by decide,by decide⟩,root_ansE,rfl⟩
theorem run_root (w:World) (g:GOK w):Calls Tryz.prog 5 #[.string ⟨#[114,111,111,116,32,49,55,10,114,111,111,116,32,45,49,10]⟩] w fun e w'=>e=.returned (.string ⟨#[111,107,32,52,10,101,114,114,111,114,32,49,49,10]⟩)∧Below w.heap.size w w':=by
 refine (run_any litR (by decide) _ _ chain_root w g).mono ?_
 rintro e w' ⟨rfl,hb⟩
 refine ⟨?_,hb⟩
 unfold runR
 rw [if_pos (by rw [litR_lines];decide),litR_lines]
 show Ending.returned (.string (ar (runT [grT [4],errB++itoB 11])))=_
 rw [itoB_11]
 have hg:grT [4]=⟨#[111,107,32,52]⟩:=by
  simp only [grT,List.foldl_cons,List.foldl_nil,txt_4]
  rfl
 rw [hg]
 rfl
end Go.Proofs.YtnaebigoknfndaaGreatDoor
namespace Go.Proofs.YtnaebigoknfndaaGreatDoor
open Go Go.RowKit
theorem splitA_ok (c:UInt8) (l:Bs) (w:World) (g:GOK w) (hz:l.length≤4000000000) (P:List Bs) (hP:cutL c [c] l=P) (m:Nat) (hm:P.length=m) :
  Calls Tryz.prog 7 #[.string (ar l),.string ⟨#[c]⟩] w fun e w'=>e=.returned (.slice (some ⟨w.heap.size,0,none⟩) m m)∧StrRow w' w.heap.size P∧Below w.heap.size w w':=by
 obtain ⟨mm,hmm⟩:=g.mlen
 have h1:Lib.splitB (sepB c) 1 (Lib.countB (ar l) (sepB c)) (ar l)=P.map ar:=by rw [← hP];exact splitB_cut c [c] 1 rfl (Nat.le_refl 1) (ar l)
 have h2:Lib.countB (ar l) (sepB c)+1=m:=by
  have:=Lib.splitB_all (sepB c) (Nat.le_refl 1) 1 _ (ar l) rfl
  rw [h1,List.length_map,hm] at this
  exact this.symm
 have hle:=countB_size c (ar l)
 rw [ar_size] at hle
 have HS:=Lib.hid (Tryz.strings_genSplit (ar l) (sepB c) 1 (-1) m mm w (by rw [ar_size];omega) hmm (Nat.le_refl 1) (Nat.le_refl 1) (by decide) (by decide) (by rw [if_pos (by decide),ar_size];omega))
 have h3:m - 1=Lib.countB (ar l) (sepB c):=by omega
 rw [h3,h1,List.length_map,hm] at HS
 have HF:=Lib.hid (show Lib.cellsOf (P.map ar) m=((P.map ar).map Value.string).toArray by rw [← hm,← List.length_map (f:=ar)];exact Lib.cellsOf_full _)
 rw [HF.out] at HS
 obtain ⟨sp,hsp⟩:∃ s,sepB c=s:=⟨_,rfl⟩
 have hsp2:ByteArray.mk #[c]=sp:=hsp
 have hsz:sp.size=1:=by rw [← hsp];rfl
 rw [hsp] at HS
 rw [hsp2]
 obtain ⟨s1,hs1⟩:∃ s1,ar l=s1:=⟨_,rfl⟩
 rw [hs1] at HS ⊢
 clear h1 h2 hle h3 hsp hsp2 hs1 hmm g
 go_enter Tryz.func7,Tryz.ntmps7
 go_wp2_with fail
 refine HS.out.mono ?_
 rintro e w1 ⟨rfl,hw⟩
 have HW:=Lib.hid hw
 clear hw
 go_wp2_with fail
 go_ret
 refine ⟨rfl,?_,?_⟩
 ·rw [HW.out];exact strRow_new _ _ _
 ·rw [HW.out];exact (Below.refl _ _).alloc (Nat.le_refl _) _
theorem isPre (a b:Bs):List.isPrefixOf a (a++b)=true:=by
 rw [List.isPrefixOf_iff_prefix];exact ⟨b,rfl⟩
theorem hasPre_ok (x p:Bs) (b:Bool) (h:p.isPrefixOf x=b) (w:World):Calls Tryz.prog 8 #[.string (ar x),.string (ar p)] w fun e w'=>e=.returned (.bool b)∧w'=w:=by
 have:=Tryz.strings_HasPrefix (ar x) (ar p) w
 unfold Lib.hasPrefix at this
 rw [show (ar x).data.toList=x from rfl,show (ar p).data.toList=p from rfl,h] at this
 exact this
end Go.Proofs.YtnaebigoknfndaaGreatDoor
namespace Go.Proofs.YtnaebigoknfndaaGreatDoor
open Go Go.RowKit
theorem errStar : "*" ++ "errors.errorString" = "*errors.errorString":=by decide
theorem errRow (u:TypeId) (h:Tryz.prog.typeName? 3 u=some "*errors.errorString"):u=265:=
 typeName_ptr_named (nm:= "errors.errorString") (by rw [errStar];kernel_rfl) (by kernel_rfl) (by decide) u (by rw [errStar];exact h)
theorem gok_of {W:World} (hL:laidMetH Tryz.prog Rows.deskLinesUptoRow.laid W) (hS:W.ShapedOpen Tryz.prog):GOK W:=by
 rw [MakeChecks.laidMetH_plain _ _ _ (by kernel_rfl)] at hL
 have h3:=hL.tail.tail
 have tab:Lib.TabIs Tryz.prog W "internal/strconv.uint64pow10" .u64 Lib.pow10Tab:=
  Lib.tabIs_of_head (zs:=Lib.pow10Tab) globPow (by kernel_rfl) Tryz.underlying207 Tryz.underlying52 (by kernel_rfl) (by kernel_rfl) h3
 have h5:=h3.tail.tail
 have gR:Tryz.prog.globalNamed "strconv.ErrRange" = some 9:=by kernel_rfl
 have gS:Tryz.prog.globalNamed "strconv.ErrSyntax" = some 8:=by kernel_rfl
 obtain ⟨a,s,hv,_⟩:=laid_sentinel h5 gR (by kernel_rfl) Tryz.underlying43 errRow Tryz.underlying265 Tryz.underlying267 rfl rfl Tryz.underlying9 (by kernel_rfl) (by kernel_rfl)
 obtain ⟨a2,s2,hv2,_⟩:=laid_sentinel h5.tail gS (by kernel_rfl) Tryz.underlying43 errRow Tryz.underlying265 Tryz.underlying267 rfl rfl Tryz.underlying9 (by kernel_rfl) (by kernel_rfl)
 have cR:=World.var?_cell gR hv 0
 have cS:=World.var?_cell gS hv2 0
 refine ⟨?_,Go.Proofs.cell_of_shapedOpen_int (zero:=#[.int .i64 0]) (t:=3) hS (of_decide_eq_true (by kernel_rfl)) (by kernel_rfl) rfl (by kernel_rfl) (by kernel_rfl) Tryz.underlying3,tab,⟨_,cS,.inr ⟨_,_,rfl⟩⟩,⟨_,cR,.inr ⟨_,_,rfl⟩⟩⟩
 rcases Nat.lt_or_ge 9 W.heap.size with h | h
 ·exact h
 ·unfold World.cell? at cR
  rw [Array.getElem?_eq_none h] at cR
  cases cR
end Go.Proofs.YtnaebigoknfndaaGreatDoor

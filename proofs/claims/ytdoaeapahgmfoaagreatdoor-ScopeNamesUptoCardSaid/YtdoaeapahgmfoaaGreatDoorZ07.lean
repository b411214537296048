/- What the rows' listed variables give: the words, the ops, the errors of the lexer. lex.Lex: the tokens of a text, or the place where none begins. The reference's Byte: one byte as a text. The law's one. The plain law of LexBlanks: blanks, a comment, or lines without tokens at a line's end turn no token. Plain laws of all tokens of a text: how many; each dedent has its indent; each token lies behind the one ahead. Small lemmas that several walks want. Plain laws of LexTexts: a token that a text holds is a token alone; the program's way to write tokens and the document's give the same. -/
import Derived.BigQuiet
import Derived.Deep.DeepCutAuto
import Derived.IntWalk
import Derived.LaidLaws
import Derived.LaidMore
import Derived.Lay
import Derived.Lib.Repeat
import Derived.OpenShut
import Derived.ProofKit
import Derived.Stop.Joined
import Derived.Test.YtdoaeapahgmfoaaGreatDoorRows
import Derived.Test.YtdoaeapahgmfoaaGreatDoorZ06
namespace Go.Proofs.YtdoaeapahgmfoaaGreatDoor
open Go.ChangeShapes Go.WideShapes Go.ChangeAt Go.RowKit
theorem own_:ownKnob Tryz.prog.godebug=none:=by kernel_rfl
theorem laid_mem {P:Program} {w:World}:∀ {l:List (String × DataW Unit)} {ps:List MemPlace},DataW.LaidVars P w l ps→∀ n d,(n,d) ∈ l→
 ∃ g t cs fuel p,P.globalNamed n=some g∧(P.globals[g]?).map (·.type)=some t∧w.var? P n=some cs∧DataW.trod (fun _=>()) P w 0 (fun _=>true) false fuel t cs.toList=some (d,p)
 | [],_,_,_,_,hm=>by cases hm
 | x :: r,ps,h,n,d,hm=>by
   obtain ⟨g,t,cs,fuel,p,q,h1,h2,h3,h4,h5,_⟩:=h
   rcases List.mem_cons.1 hm with rfl | hm
   · exact ⟨g,t,cs,fuel,p,h1,h2,h3,h4⟩
   · exact laid_mem h5 n d hm
theorem laid_size {P:Program} {w:World} {n:String} {g:Nat} {cs:Array Value} (hg:P.globalNamed n=some g) (h:w.var? P n=some cs):g < w.heap.size:=by
 simp only [World.var?,hg,Option.bind_some] at h
 split at h
 · rename_i h1;exact (Array.getElem?_eq_some_iff.1 h1).1
 · cases h
theorem laid_iface {W:World} {l:List (String × DataW Unit)} {ps:List MemPlace} (h:DataW.LaidVars Tryz.prog W l ps) (n name:String) (d:DataW Unit) (g:Nat) (hm:(n,.iface name d) ∈ l)
 (hgn:Tryz.prog.globalNamed n=some g) (hgt:(Tryz.prog.globals[g]?).map (·.type)=some 27):∃ te pe,W.cell? ⟨g,0,none⟩=some (.iface te pe):=by
 obtain ⟨g',t,cs,fuel,p,h1,h2,h3,h4⟩:=laid_mem h n _ hm
 obtain rfl:=Option.some.inj (hgn.symm.trans h1)
 obtain rfl:=Option.some.inj (hgt.symm.trans h2)
 obtain ⟨_,u,v,hcs,_,_⟩:=iface_of_trod Tryz.underlying27 h4
 refine ⟨u,v,?_⟩
 have:=World.var?_cell hgn h3 0
 rw [Array.eq_one_of_toList hcs] at this
 simpa using this
theorem cells_string:Tryz.prog.cellsOf 9=1:=by kernel_rfl
theorem laid_strs {W:World} {l:List (String × DataW Unit)} {ps:List MemPlace} (h:DataW.LaidVars Tryz.prog W l ps) (n:String) (zs:List (List UInt8)) (g:Nat) (hz:0 < zs.length) (hm:(n,.slice (zs.map fun z=> .lit (.string z)) []) ∈ l)
 (hgn:Tryz.prog.globalNamed n=some g) (hgt:(Tryz.prog.globals[g]?).map (·.type)=some 36):
 ∃ b o c,W.cell? ⟨g,0,none⟩=some (.slice (some ⟨b,o,none⟩) zs.length c)∧b < W.heap.size∧∀ j (hj:j < (zs.map toBA).length),W.cell? ⟨b,o+j,none⟩=some (.string (zs.map toBA)[j]):=by
 obtain ⟨g',t,cs,fuel,p,h1,h2,h3,h4⟩:=laid_mem h n _ hm
 obtain rfl:=Option.some.inj (hgn.symm.trans h1)
 obtain rfl:=Option.some.inj (hgt.symm.trans h2)
 obtain ⟨a,cap,hcs,_,hel⟩:=open_row Tryz.underlying36 cells_string h4
 have hcell:∀ j (hj:j < (zs.map toBA).length),W.cell? (a.add j)=some (.string (zs.map toBA)[j]):=by
  intro j hj
  have hj':j < zs.length:=by simpa using hj
  obtain ⟨v,m,q,hc,ht⟩:=hel j (.lit (.string zs[j])) (by rw [List.getElem?_map,List.getElem?_eq_getElem hj'];rfl)
  obtain ⟨s,hs,hx,_⟩:=DataW.trod_string Tryz.underlying9 ht
  rw [hc]
  have e1:v= .string s:=by simpa using hs
  have e2:zs[j]=s.data.toList:=by simpa using (Prod.mk.inj hx).1
  rw [e1,List.getElem_map,e2,toBA_of]
 obtain ⟨b,o,spot⟩:=a
 have hc0:=hcell 0 (by simpa using hz)
 have hspot:spot=none:=by simpa [Addr.add] using World.cell?_spot hc0
 subst hspot
 have hadd:∀ j,(⟨b,o,none⟩:Addr).add j=⟨b,o+j,none⟩:=by intro j;unfold Addr.add;split <;> simp_all
 refine ⟨b,o,cap,?_,World.block_lt_of_cell? W _ hc0,fun j hj=>by rw [← hadd];exact hcell j hj⟩
 have:=World.var?_cell hgn h3 0
 rw [Array.eq_one_of_toList hcs,List.length_map] at this
 simpa using this
theorem g_of:Tryz.prog.globalNamed "nurserypy/lex.words" =some 8∧Tryz.prog.globalNamed "nurserypy/lex.ops" =some 9∧Tryz.prog.globalNamed "strconv.ErrSyntax" =some 13∧
 Tryz.prog.globalNamed "strconv.ErrRange" =some 14∧Tryz.prog.globalNamed "nurserypy/api.ErrText" =some 2∧Tryz.prog.globalNamed "nurserypy/api.ErrBound" =some 1∧
 Tryz.prog.globalNamed "unicode/utf8.acceptRanges" =some 18:=⟨by kernel_rfl,by kernel_rfl,by kernel_rfl,by kernel_rfl,by kernel_rfl,by kernel_rfl,by kernel_rfl⟩
theorem words_laid {H:Type}:(Rows.laid_nurserypy_lex_words:DataW H)= .slice (wordsL.map fun z=> .lit (.string z)) []:=rfl
theorem ops_laid {H:Type}:(Rows.laid_nurserypy_lex_ops:DataW H)= .slice (opsL.map fun z=> .lit (.string z)) []:=rfl
theorem glob_of_vars {W:World} {l:List (String × DataW Unit)} {ps:List MemPlace} (h:DataW.LaidVars Tryz.prog W l ps)
 (h1:("nurserypy/lex.words",Rows.laid_nurserypy_lex_words) ∈ l) (h2:("nurserypy/lex.ops",Rows.laid_nurserypy_lex_ops) ∈ l) (h3:("strconv.ErrSyntax",Rows.laid_strconv_ErrSyntax) ∈ l) (h4:("strconv.ErrRange",Rows.laid_strconv_ErrRange) ∈ l)
 (h5:("nurserypy/api.ErrText",Rows.laid_nurserypy_api_ErrText) ∈ l) (h6:("nurserypy/api.ErrBound",Rows.laid_nurserypy_api_ErrBound) ∈ l) (h7:("unicode/utf8.acceptRanges",Rows.laid_unicode_utf8_acceptRanges) ∈ l):
 Glob W.heap.size W∧(∃ te pe,W.cell? ⟨2,0,none⟩=some (.iface te pe))∧(∃ te pe,W.cell? ⟨1,0,none⟩=some (.iface te pe)):=by
 obtain ⟨g1,g2,g3,g4,g5,g6,g7⟩:=g_of
 obtain ⟨g',t,cs,fuel,p,k1,k2,k3,k4⟩:=laid_mem h _ _ h7
 have hsz:18 < W.heap.size:=laid_size g7 k3
 rw [words_laid] at h1
 rw [ops_laid] at h2
 refine ⟨⟨by omega,laid_strs h _ wordsL _ (by decide) h1 g1 (by kernel_rfl),laid_strs h _ opsL _ (by decide) h2 g2 (by kernel_rfl),laid_iface h _ _ _ _ h3 g3 (by kernel_rfl),laid_iface h _ _ _ _ h4 g4 (by kernel_rfl)⟩,
  laid_iface h _ _ _ _ h5 g5 (by kernel_rfl),laid_iface h _ _ _ _ h6 g6 (by kernel_rfl)⟩
end Go.Proofs.YtdoaeapahgmfoaaGreatDoor
namespace Go.Proofs.YtdoaeapahgmfoaaGreatDoor
open Go.RowKit
theorem Glob.mono {B B':Nat} {w:World} (h:Glob B w) (hB:B≤B'):Glob B' w:=by
 obtain ⟨b,o,c,h1,h2,h3⟩:=h.words
 obtain ⟨b2,o2,c2,g1,g2,g3⟩:=h.ops
 exact ⟨by have:=h.hB;omega,⟨b,o,c,h1,by omega,h3⟩,⟨b2,o2,c2,g1,by omega,g3⟩,h.syn,h.ran⟩
def linesL:Nat→List UInt8→Nat→List Nat→Except Nat (List Tok × List Nat)
 | 0,_,_,st=> .ok ([],st)
 | f+1,l,i,st=>if i < l.length then match lineL l i st with
    | .error e=> .error e
    | .ok (ts,j,st')=>match linesL f l j st' with
      | .error e=> .error e
      | .ok (ts',st'')=> .ok (ts ++ ts',st'')
   else .ok ([],st)
def lexL (l:List UInt8):Except Nat (List Tok):=match linesL (l.length+1) l 0 [0] with
 | .error e=> .error e
 | .ok (ts,st)=> .ok (ts ++ List.replicate (st.length - 1) ⟨kDedent,[],l.length⟩ ++ [⟨kEnd,[],l.length⟩])
def LinesRel (l:List UInt8) (j:Nat) (st:List Nat) (ts:List Tok):Prop:=∀ f,l.length < j+f→linesL (l.length+1) l 0 [0]=match linesL f l j st with
 | .error e=> .error e
 | .ok (a,st')=> .ok (ts ++ a,st')
theorem linesL_fuel:∀ (f g:Nat) (l:List UInt8) (k:Nat) (st:List Nat),l.length < k+f→l.length < k+g→linesL f l k st=linesL g l k st:=by
 intro f
 induction f with
 | zero=>
   intro g l k st h2 h3
   match g with
   | 0=>rfl
   | g+1=>rw [linesL,linesL,if_neg (by omega)]
 | succ f ih=>
   intro g l k st h2 h3
   match g,h3 with
   | 0,h3=>rw [linesL,linesL,if_neg (by omega)]
   | g+1,h3=>
     rw [linesL,linesL]
     split
     · rename_i hk
       split
       · rfl
       · rename_i ts j st' hl
         have:=lineL_sum (by omega) hl
         rw [ih g l j st' (by omega) (by omega)]
     · rfl
theorem LinesRel.start (l:List UInt8):LinesRel l 0 [0] []:=by
 intro f hf
 rw [linesL_fuel (l.length+1) f l 0 [0] (by omega) (by omega)]
 split
 · rename_i e he;exact he
 · rename_i a st' he;exact he
theorem LinesRel.next {l:List UInt8} {i j:Nat} {st st':List Nat} {ts ts':List Tok} (h:LinesRel l i st ts) (hi:i < l.length) (hl:lineL l i st= .ok (ts',j,st')):LinesRel l j st' (ts ++ ts'):=by
 intro f hf
 have hs:=lineL_sum (by omega) hl
 rw [h (f+(j - i)) (by omega),show f+(j - i)=(f+(j - i) - 1)+1 from by omega,linesL,if_pos hi,hl]
 simp only
 rw [linesL_fuel (f+(j - i) - 1) f l j st' (by omega) (by omega)]
 rcases linesL f l j st' with e | ⟨a,b⟩
 · rfl
 · simp
theorem LinesRel.bad {l:List UInt8} {i e:Nat} {st:List Nat} {ts:List Tok} (h:LinesRel l i st ts) (hi:i < l.length) (hl:lineL l i st= .error e):lexL l= .error e:=by
 unfold lexL
 rw [h (l.length+1) (by omega),linesL,if_pos hi,hl]
theorem LinesRel.stop {l:List UInt8} {i:Nat} {st:List Nat} {ts:List Tok} (h:LinesRel l i st ts) (hi:l.length≤i):
 lexL l= .ok (ts ++ List.replicate (st.length - 1) ⟨kDedent,[],l.length⟩ ++ [⟨kEnd,[],l.length⟩]):=by
 unfold lexL
 rw [h (l.length+1) (by omega),linesL,if_neg (by omega)]
 simp
def LexPost (w:World) (l:List UInt8) (e:Ending) (w':World):Prop:=
 Below w.heap.size w w'∧match lexL l with
 | .ok ts=>∃ vo,e= .returned (.tuple #[vo,.nilIface])∧w'.ownsRow w.heap.size 104 3 vo ts.length (tokCells ts)
 | .error k=>∃ N te pe,e= .returned (.tuple #[.slice none 0 0,.iface 107 (.pointer (some ⟨N,0,none⟩))])∧w.heap.size≤N∧w.cell? ⟨2,0,none⟩=some (.iface te pe)∧
    w'.heap[N]? =some (.cells #[.int .i64 (k:Int),.iface te pe] 109 (0,0))
def lexStart (w:World) (s:ByteArray):World:=
 (((w.alloc (.cells #[.slice none 0 0] 42)).alloc (.cells #[.nilIface] 27)).alloc (.cells #[.int .i64 0] 3)).alloc
   (.cells #[.string s,.int .i64 0,.slice none 0 0,.slice (some ⟨w.heap.size+1+1,0,none⟩) 1 1] 112)
theorem lexStart_facts (w:World) (s:ByteArray):
 LexC (lexStart w s) (w.heap.size+1+1+1) s 0 (.slice none 0 0) (.slice (some ⟨w.heap.size+1+1,0,none⟩) 1 1) [] [0]∧Below w.heap.size w (lexStart w s)∧
 (lexStart w s).heap[w.heap.size]? =some (.cells #[.slice none 0 0] 42 (0,0))∧(lexStart w s).heap[w.heap.size+1]? =some (.cells #[.nilIface] 27 (0,0)):=by
 have e1:(w.alloc (.cells #[.slice none 0 0] 42)).heap.size=w.heap.size+1:=by simp
 have e2:((w.alloc (.cells #[.slice none 0 0] 42)).alloc (.cells #[.nilIface] 27)).heap.size=w.heap.size+1+1:=by simp
 have e3:(((w.alloc (.cells #[.slice none 0 0] 42)).alloc (.cells #[.nilIface] 27)).alloc (.cells #[.int .i64 0] 3)).heap.size=w.heap.size+1+1+1:=by simp
 have h4:=heap_alloc_new (((w.alloc (.cells #[.slice none 0 0] 42)).alloc (.cells #[.nilIface] 27)).alloc (.cells #[.int .i64 0] 3)) (.cells #[.string s,.int .i64 0,.slice none 0 0,.slice (some ⟨w.heap.size+1+1,0,none⟩) 1 1] 112)
 have h3:=heap_alloc_new ((w.alloc (.cells #[.slice none 0 0] 42)).alloc (.cells #[.nilIface] 27)) (.cells #[.int .i64 0] 3)
 have h2:=heap_alloc_new (w.alloc (.cells #[.slice none 0 0] 42)) (.cells #[.nilIface] 27)
 have h1:=heap_alloc_new w (.cells #[.slice none 0 0] 42)
 rw [e1] at h2;rw [e2] at h3;rw [e3] at h4
 refine ⟨⟨h4,World.ownsRow_nil _ _ _ _,⟨by simp [intCells],.inr ⟨w.heap.size+1+1,1,#[.int .i64 0],rfl,by omega,?_,by simp,by simp [maxLen],by simp,by simp [intCells]⟩⟩⟩,?_,?_,?_⟩
 · exact (Below.heap_alloc _ _ _ (by rw [e3];omega)).trans h3
 · exact ((((Below.refl _ _).alloc (Nat.le_refl _) _).alloc (by simp) _).alloc (by simp;omega) _).alloc (by simp;omega) _
 · exact (Below.heap_alloc _ _ _ (by rw [e3];omega)).trans ((Below.heap_alloc _ _ _ (by rw [e2];omega)).trans ((Below.heap_alloc _ _ _ (by rw [e1];omega)).trans h1))
 · exact (Below.heap_alloc _ _ _ (by rw [e3];omega)).trans ((Below.heap_alloc _ _ _ (by rw [e2];omega)).trans h2)
theorem ownsRow_base {w:World} {B B' T sz n:Nat} {v:Value} {xs:List Value} (h:w.ownsRow B T sz v n xs) (hB:B'≤B):w.ownsRow B' T sz v n xs:=by
 refine ⟨h.1,?_⟩
 rcases h.2 with h2 | ⟨g,cap,cur,rfl,h3,h4⟩
 · exact .inl h2
 · exact .inr ⟨g,cap,cur,rfl,by omega,h4⟩
theorem slice_tail (g n cap:Nat) (hn:1≤n) (hc:n≤cap):∃ (a:Option Addr) (c:Nat),∀ w:World,
 (Instr.slice 92 (.slice (some ⟨g,0,none⟩) n cap) (some (.int .i64 1)) none none).run Tryz.prog w= .ok (.slice a (n - 1) c) w:=by
 have h1:(1:Int)≤n:=by omega
 by_cases h:cap=1
 · refine ⟨some ⟨g,0,none⟩,cap - 1,fun w=> ?_⟩
   have hn1:n=1:=by omega
   subst hn1;subst h
   simp [Instr.slice,Instr.sliceBounds,Instr.sliceBound,asIntOf,run_underlying Tryz.underlying92,Addr.add]
 · refine ⟨some ⟨g,1,none⟩,cap - 1,fun w=> ?_⟩
   simp [Instr.slice,Instr.sliceBounds,Instr.sliceBound,asIntOf,run_underlying Tryz.underlying92,h1,Addr.add]
   exact h
set_option maxRecDepth 100000 in
set_option maxHeartbeats 1000000 in
theorem lex_any {w:World} (s:ByteArray) (hs:s.size≤6000) (hg:GlobE w.heap.size w):
 Calls Tryz.prog 18 #[.string s] w (LexPost w s.data.toList):=by
 have hmf:∀ (fn:Fn) (first cap:Array Value) (w:World),(Instr.makeFunc fn first cap).run Tryz.prog w= .ok (.func fn first cap) w:=fun _ _ _ _=>rfl
 have hd:decide (6000 < (s.size:Int))=false:=by simp;omega
 go_enter_defers Tryz.func18,Tryz.ntmps18
 go_wp2_with fail
 obtain ⟨l0,b0,hbl,hbe⟩:=lexStart_facts w s
 have hgs:∀ W,Below w.heap.size w W→GlobE w.heap.size W:=fun W hb=>hg.below hb
 obtain ⟨bl,hbl0⟩:∃ bl,bl=w.heap.size:=⟨_,rfl⟩
 obtain ⟨x,hx⟩:∃ x,x=w.heap.size+1+1+1:=⟨_,rfl⟩
 have hW:(((w.alloc (.cells #[.slice none 0 0] 42)).alloc (.cells #[.nilIface] 27)).alloc (.cells #[.int .i64 0] 3)).alloc
  (.cells #[.string s,.int .i64 0,.slice none 0 0,.slice (some ⟨w.heap.size+1+1,0,none⟩) 1 1] 112)=lexStart w s:=rfl
 rw [hW]
 clear hW
 generalize lexStart w s=W0 at l0 b0 hbl hbe ⊢
 rw [← hx] at l0 ⊢
 go_loopw [14] (fun _ W=>∃ (i:Nat) (vo vp:Value) (ts:List Tok) (st:List Nat),LexC W x s i vo vp ts st.reverse∧Stp x W0 W∧LinesRel s.data.toList i st ts∧st.getLast? =some 0∧ts.length+st.length≤3 * i+1∧i≤s.size+1) (fun _ W=>s.size+1 - placeLen W x)
 case atStart=>exact ⟨0,_,_,[],[0],l0,Stp.refl _ _,LinesRel.start _,rfl,by simp,by omega⟩
 case round=>
  obtain ⟨i,vo,vp,ts,st,l1,k1,hrel,hlast,hlen,hi⟩:=hrel
  have Hrel:=Lib.hid hrel;clear hrel
  have b1:Below w.heap.size w wr:=b0.trans ((k1.below l0).mono (by omega))
  have hpl:=l1.placeLen
  have Hpl:=Lib.hid hpl;clear hpl
  have Hx:=Lib.hid hx;clear hx
  have c1:=l1.c1
  by_cases hlt:i < s.size
  · have hg1:Glob (x - 1) wr:=by
     have h1:=(hg.toGlob.below b1)
     exact h1.mono (by have:=Hx.out;omega)
    rcases hl:lineL s.data.toList i st with k | ⟨ts',j,st'⟩
    · have Hbad:=Lib.hid (Hrel.out.bad (by simpa using hlt) hl)
      go_wp2_with fail
      refine (line_any l1 hg1 hs hlt (by omega) hlast).mono ?_
      intro e W2 hpost
      rw [hl] at hpost
      obtain ⟨rfl,k2⟩:=hpost
      have b3:=(k1.trans k2).below l0
      have bb3:Below w.heap.size w W2:=b0.trans (b3.mono (by have:=Hx.out;omega))
      have hbl3:W2.heap[w.heap.size]? =some (.cells #[.slice none 0 0] 42 (0,0)):=(b3.block _ (by have:=Hx.out;omega)).trans hbl
      have hbe3:W2.heap[w.heap.size+1]? =some (.cells #[.nilIface] 27 (0,0)):=(b3.block _ (by have:=Hx.out;omega)).trans hbe
      obtain ⟨te,pe,htx⟩:=hg.text
      have htx2:W2.cell? ⟨2,0,none⟩=some (.iface te pe):=(bb3.cell (p:=⟨2,0,none⟩) (by have:=hg.hB;show 2 < w.heap.size;omega)).trans htx
      have cl:=cell_of_blk (o:=0) hbl3
      have fl:=frozen_of_blk (o:=0) hbl3
      have ce:=cell_of_blk (o:=0) hbe3
      have fe:=frozen_of_blk (o:=0) hbe3
      have hlb:=lt_of_blk hbl3
      have heb:=lt_of_blk hbe3
      go_wp2_with fail
      refine leaves_cons (f:=44) (args:= #[.pointer (some ⟨w.heap.size,0,none⟩),.pointer (some ⟨w.heap.size+1,0,none⟩)]) (by simp) (by simp [go_sem]) ?_
      refine (catch_place w.heap.size (w.heap.size+1) k _ _ te pe [] W2 (by omega) cl ce fl fe htx2).mono ?_
      rintro e u' w'' ⟨rfl,rfl,rfl⟩
      simp [Leaves,settle,results,Tryz.results18,go_sem,cl,ce,hlb,heb]
      refine ⟨(((bb3.setCell (p:=⟨w.heap.size,0,none⟩) (Nat.le_refl _) _).setCell (p:=⟨w.heap.size+1,0,none⟩) (by simp) _).alloc (by simp;omega) _),?_⟩
      rw [Hbad.out]
      refine ⟨_,te,pe,rfl,by omega,htx,?_⟩
      have hnew:=heap_alloc_new ((W2.setCell ⟨w.heap.size,0,none⟩ (.slice none 0 0)).setCell ⟨w.heap.size+1,0,none⟩ (.iface 107 (.pointer (some ⟨W2.heap.size,0,none⟩)))) (.cells #[.int .i64 (k:Int),.iface te pe] 109)
      simpa using hnew
    · have hs1:=lineL_sum (by simp;omega) hl
      have hn1:=lineL_ne hlast hl
      have Hrel2:=Lib.hid (Hrel.out.next (by simpa using hlt) hl)
      go_wp2_with fail
      refine (line_any l1 hg1 hs hlt (by omega) hlast).mono ?_
      intro e W2 hpost
      rw [hl] at hpost
      obtain ⟨rfl,⟨vo2,vp2,l2⟩,k2⟩:=hpost
      have k2':=k1.trans k2
      clear c1
      go_wp2_with fail
      go_roundw
      case rel=>exact ⟨j,vo2,vp2,_,st',l2,k2',Hrel2.out,hn1,by simp;omega,by have:=hs1.2.1;simpa using this⟩
      case measure=>
       rw [l2.placeLen,Hpl.out]
       have:=hs1.2.1;simp at this;omega
  · match st,hlast,hlen,l1,Hrel with
    | t :: r,hlast,hlen,l1,Hrel=>
    have Hres:=Lib.hid (Hrel.out.stop (by simpa using hlt))
    obtain ⟨g,n,cap,hvp,hn,_⟩:=l1.top
    have hcap:n≤cap:=by
     have ho:=l1.opn
     rw [hvp] at ho
     rcases ho.2 with ⟨h1,_⟩ | ⟨_,_,_,h1,_,_,h2,_⟩
     · cases h1
     · injection h1 with _ h3 h4
       rw [h3,h4];exact h2
    obtain ⟨ad,c2,hsl⟩:=slice_tail g n cap (by omega) hcap
    have c3:=l1.c3
    rw [hvp] at c3
    have hn3:n≤30000:=by simp at hlen;omega
    obtain ⟨k,hk⟩:∃ k,k=n - 1:=⟨_,rfl⟩
    rw [← hk] at hsl
    have hk3:k≤30000:=by omega
    have Hk:=Lib.hid hk;have Hn:=Lib.hid hn;have Hvp:=Lib.hid hvp
    clear hk hn hvp
    go_wp2_with fail
    go_loopw [29] (fun v W=>∃ (m:Nat) (vo':Value),m≤k∧v= .int .i64 (m:Int)∧LexC W x s i vo' vp (ts ++ List.replicate m ⟨kDedent,[],s.size⟩) (t :: r).reverse∧Stp x W0 W) (fun v _=>k - (intOf v).toNat)
    case atStart=>exact ⟨0,vo,by omega,rfl,by simpa using l1,k1⟩
    case round=>
     obtain ⟨m,vo2,hm,rfl,l2,k2⟩:=hrel
     by_cases hmk:m < k
     · go_wp2_with fail
       refine (put_any l2 _ _ _ (by simp at hlen ⊢;unfold maxToks;omega)).mono ?_
       rintro e W3 ⟨rfl,⟨vo3,l3⟩,k3⟩
       have l3':LexC W3 x s i vo3 vp (ts ++ List.replicate (m+1) ⟨kDedent,[],s.size⟩) (t :: r).reverse:=by
        rw [List.replicate_succ',← List.append_assoc];exact l3
       have k3':=k2.trans k3
       clear l2 k2 l3 k3
       go_wp2_with fail
       go_roundw
       case rel=>exact ⟨m+1,vo3,by omega,by go_num,l3',k3'⟩
       case measure=>simp [intOf];omega
     · obtain rfl:m=k:=by omega
       go_wp2_with fail
       refine (put_any l2 _ _ _ (by simp at hlen ⊢;unfold maxToks;omega)).mono ?_
       rintro e W3 ⟨rfl,⟨vo3,l3⟩,k3⟩
       have k3':=k2.trans k3
       have b3:=k3'.below l0
       have bb3:Below w.heap.size w W3:=b0.trans (b3.mono (by have:=Hx.out;omega))
       have hbl3:W3.heap[w.heap.size]? =some (.cells #[.slice none 0 0] 42 (0,0)):=(b3.block _ (by have:=Hx.out;omega)).trans hbl
       have hbe3:W3.heap[w.heap.size+1]? =some (.cells #[.nilIface] 27 (0,0)):=(b3.block _ (by have:=Hx.out;omega)).trans hbe
       clear k2 k3 k3' b3 l2
       have l3:LexC W3 x s i vo3 vp (ts ++ List.replicate m ⟨kDedent,[],s.size⟩ ++ [⟨kEnd,[],s.size⟩]) (t :: r).reverse:=l3
       obtain ⟨n3,hn3'⟩:∃ n3,n3=(ts ++ List.replicate m ⟨kDedent,[],s.size⟩ ++ [⟨kEnd,[],s.size⟩]:List Tok).length:=⟨_,rfl⟩
       have hout3:=l3.out
       rw [← hn3'] at hout3
       have hpos:0 < n3:=by rw [hn3',List.length_append];simp
       obtain ⟨g3,cap3,hv3,_,_⟩:=hout3.form hpos
       subst hv3
       have c2:=l3.c2
       have Hn3:=Lib.hid hn3';clear hn3' hpos
       have cl:=cell_of_blk (o:=0) hbl3
       have fl:=frozen_of_blk (o:=0) hbl3
       have ce:=cell_of_blk (o:=0) hbe3
       have fe:=frozen_of_blk (o:=0) hbe3
       go_wp2_with fail
       refine leaves_cons (f:=44) (args:= #[.pointer (some ⟨w.heap.size,0,none⟩),.pointer (some ⟨w.heap.size+1,0,none⟩)]) (by simp) (by simp [go_sem]) ?_
       refine (catch_idle w.heap.size (w.heap.size+1) _).mono ?_
       rintro e u' w'' ⟨rfl,rfl,rfl⟩
       simp [Leaves,settle,results,Tryz.results18,go_sem,cl,ce]
       have hlex:lexL s.data.toList= .ok (ts ++ List.replicate m ⟨kDedent,[],s.size⟩ ++ [⟨kEnd,[],s.size⟩]):=by
        have h1:=Hres.out
        have h2:(t :: r).length - 1=m:=by rw [Hk.out,Hn.out];simp
        rw [h2] at h1
        simpa using h1
       have hg3:x - 1≤g3:=(hout3.lt g3 rfl).1
       have hx3:=Hx.out
       refine ⟨(bb3.setCell (p:=⟨w.heap.size,0,none⟩) (Nat.le_refl _) _).setCell (p:=⟨w.heap.size+1,0,none⟩) (by simp) _,?_⟩
       rw [hlex]
       refine ⟨_,rfl,?_⟩
       rw [← Hn3.out]
       refine ownsRow_setCell (ownsRow_setCell (ownsRow_base hout3 (by omega)) ?_) ?_
       · simp [Value.ownBlock];omega
       · simp [Value.ownBlock];omega
theorem lex_long {w:World} (s:ByteArray) (hs:6000 < s.size) (hm:s.size≤9223372036854775807) (te:TypeId) (pe:Value) (hb:w.cell? ⟨1,0,none⟩=some (.iface te pe)):
 Calls Tryz.prog 18 #[.string s] w fun e w'=>e= .returned (.tuple #[.slice none 0 0,.iface te pe])∧Below w.heap.size w w':=by
 have hmf:∀ (fn:Fn) (first cap:Array Value) (w:World),(Instr.makeFunc fn first cap).run Tryz.prog w= .ok (.func fn first cap) w:=fun _ _ _ _=>rfl
 have hd:decide (6000 < (s.size:Int))=true:=by simp;omega
 have hlt:1 < w.heap.size:=World.block_lt_of_cell? w _ hb
 have e1:(w.alloc (.cells #[.slice none 0 0] 42)).heap.size=w.heap.size+1:=by simp
 have e2:((w.alloc (.cells #[.slice none 0 0] 42)).alloc (.cells #[.nilIface] 27)).heap.size=w.heap.size+1+1:=by simp
 have h2:=heap_alloc_new (w.alloc (.cells #[.slice none 0 0] 42)) (.cells #[.nilIface] 27)
 have h1:=heap_alloc_new w (.cells #[.slice none 0 0] 42)
 rw [e1] at h2
 have h1':((w.alloc (.cells #[.slice none 0 0] 42)).alloc (.cells #[.nilIface] 27)).heap[w.heap.size]? =some (.cells #[.slice none 0 0] 42 (0,0)):=(Below.heap_alloc _ _ _ (by rw [e1];omega)).trans h1
 have hbl:Below w.heap.size w ((w.alloc (.cells #[.slice none 0 0] 42)).alloc (.cells #[.nilIface] 27)):=((Below.refl _ _).alloc (Nat.le_refl _) _).alloc (by simp) _
 have hv:=(hbl.cell (p:=⟨1,0,none⟩) hlt).trans hb
 go_enter_defers Tryz.func18,Tryz.ntmps18
 go_wp2_with fail
 generalize (w.alloc (.cells #[.slice none 0 0] 42)).alloc (.cells #[.nilIface] 27)=W at h2 h1' hbl hv e2 ⊢
 have cl:=cell_of_blk (o:=0) h1'
 have fl:=frozen_of_blk (o:=0) h1'
 have ce:=cell_of_blk (o:=0) h2
 have fe:=frozen_of_blk (o:=0) h2
 clear e1 h1
 have H1:=Lib.hid h1';have H2:=Lib.hid h2;have E2:=Lib.hid e2;have Hbl:=Lib.hid hbl
 clear h1' h2 e2 hbl
 go_region
 all_goals
  go_wp2_with fail
  simp [bodyPostD,Leaves,results,Tryz.results18,go_sem,cl,ce]
  exact ((Hbl.out.setCell (p:=⟨w.heap.size,0,none⟩) (Nat.le_refl _) _).setCell (p:=⟨w.heap.size+1,0,none⟩) (by simp) _).drew
end Go.Proofs.YtdoaeapahgmfoaaGreatDoor
namespace Go.Proofs.YtdoaeapahgmfoaaGreatDoor
open Go.RowKit
theorem GlobE.mono {B B':Nat} {w:World} (h:GlobE B w) (hB:B≤B'):GlobE B' w:=⟨h.toGlob.mono hB,h.text,h.bound⟩
theorem tokCells_at:∀ (ts:List Tok) (j:Nat) (hj:j < ts.length),(tokCells ts)[j * 3]? =some (.string (toBA ts[j].kind))∧(tokCells ts)[j * 3+1]? =some (.string (toBA ts[j].text))∧(tokCells ts)[j * 3+2]? =some (.int .i64 (ts[j].at_:Int))
 | t :: l,0,_=>by simp [tokCells,Tok.cells,toBA,S]
 | t :: l,j+1,hj=>by
   obtain ⟨h1,h2,h3⟩:=tokCells_at l j (by simpa using hj)
   have e:∀ k,(tokCells (t :: l))[(j+1) * 3+k]? =(tokCells l)[j * 3+k]? :=by
    intro k
    show (t.cells ++ tokCells l)[(j+1) * 3+k]? =_
    rw [List.getElem?_append_right (by simp [Tok.cells];omega)]
    congr 1
    simp [Tok.cells];omega
   exact ⟨(e 0).trans h1,(e 1).trans h2,(e 2).trans h3⟩
theorem toks_row {w:World} {B:Nat} {v:Value} {ts:List Tok} (h:w.ownsRow B 104 3 v ts.length (tokCells ts)) (hn:0 < ts.length):
 ∃ g cap,v= .slice (some ⟨g,0,none⟩) ts.length cap∧B≤g∧g < w.heap.size∧∀ j (hj:j < ts.length),w.cell? ⟨g,j * 3,none⟩=some (.string (toBA ts[j].kind))∧w.cell? ⟨g,j * 3+1,none⟩=some (.string (toBA ts[j].text))∧w.cell? ⟨g,j * 3+2,none⟩=some (.int .i64 (ts[j].at_:Int)):=by
 rcases h.2 with ⟨_,h0⟩ | ⟨g,cap,cur,hv,hB,hg,hn',hc,hsz,htake⟩
 · omega
 refine ⟨g,cap,hv,hB,lt_of_blk hg,fun j hj=> ?_⟩
 have hk:∀ k,k < ts.length * 3→w.cell? ⟨g,k,none⟩=(tokCells ts)[k]? :=by
  intro k hk
  rw [cell_of_blk hg]
  have h1:(cur.toList.take (ts.length * 3))[k]? =(tokCells ts)[k]? :=by rw [htake]
  rw [List.getElem?_take_of_lt hk] at h1
  rw [← h1,Array.getElem?_toList]
 obtain ⟨h1,h2,h3⟩:=tokCells_at ts j hj
 exact ⟨(hk _ (by omega)).trans h1,(hk _ (by omega)).trans h2,(hk _ (by omega)).trans h3⟩
def hexD (n:Nat):UInt8:=if n < 10 then UInt8.ofNat (48+n) else UInt8.ofNat (87+n)
def qB (c:UInt8):List UInt8:=
 if c.toNat=10 then [92,110]
 else if c.toNat=34∨c.toNat=92 then [92,c]
 else if c.toNat < 32∨126 < c.toNat then [92,120,hexD (c.toNat / 16),hexD (c.toNat % 16)]
 else [c]
def qL:List UInt8→List UInt8
 | []=> []
 | c :: r=>qB c ++ qL r
def quotedL (l:List UInt8):List UInt8:= [34] ++ qL l ++ [34]
theorem qB_len (c:UInt8):(qB c).length≤4:=by
 unfold qB;split
 · simp
 · split
   · simp
   · split <;> simp
theorem qL_len (l:List UInt8):(qL l).length≤4 * l.length:=by
 induction l with
 | nil=>simp [qL]
 | cons c r ih=>have:=qB_len c;simp only [qL,List.length_append,List.length_cons];omega
theorem qL_snoc (l:List UInt8) (c:UInt8):qL (l ++ [c])=qL l ++ qB c:=by
 induction l with
 | nil=>simp [qL]
 | cons d r ih=>simp [qL,ih]
end Go.Proofs.YtdoaeapahgmfoaaGreatDoor
namespace Go.Proofs.YtdoaeapahgmfoaaGreatDoor
open Go.RowKit
def EndS (r:List UInt8):Prop:=r= []∨∃ t,r=10 :: t
def skipB (r:List UInt8):List UInt8:=r.dropWhile blankB
def noNl (b:UInt8):Bool:=b.toNat != 10
def skipC (r:List UInt8):List UInt8:=match r with
 | []=> []
 | c :: t=>if c.toNat=35 then (c :: t).dropWhile noNl else c :: t
def skipS (r:List UInt8):List UInt8:=skipC (skipB r)
structure TailV (v1 v2:List UInt8):Prop where
 fin:EndS v2
 noq:∀ b ∈ v1,b.toNat≠34
 non:∀ b ∈ v1,noNl b=true
 hd:v1= []∨∃ t,v1=32 :: t
 skip:skipS (v1 ++ v2)=v2
theorem TailV.nil {v2:List UInt8} (h:EndS v2):TailV [] v2:=by
 refine ⟨h,by simp,by simp,.inl rfl,?_⟩
 rcases h with rfl | ⟨t,rfl⟩ <;> rfl
theorem EndS.nonl {v2:List UInt8} (h:EndS v2):v2.dropWhile noNl=v2:=by
 rcases h with rfl | ⟨t,rfl⟩ <;> rfl
end Go.Proofs.YtdoaeapahgmfoaaGreatDoor
namespace Go.Proofs.YtdoaeapahgmfoaaGreatDoor
open Go.RowKit
theorem lexL_pos {l:List UInt8} {ts:List Tok} (h:lexL l= .ok ts):0 < ts.length:=by
 unfold lexL at h
 split at h
 · cases h
 · injection h with h;subst h;simp;omega
end Go.Proofs.YtdoaeapahgmfoaaGreatDoor
namespace Go.Proofs.YtdoaeapahgmfoaaGreatDoor
open Go.RowKit
theorem m_toList (l:List UInt8):(toBA l).toList=l:=by rw [ByteArray.toList_eq];rfl
theorem m_ne {a b:List UInt8} (h:¬ a=b):((toBA a).toList == b)=false:=by rw [m_toList];simp [h]
theorem m_drewN {B:Nat} {a w:World} (h:Below B a w) (n:Nat):Below B a (w.drewN n):=⟨h.os,h.tape,h.output,h.size,h.block⟩
theorem m_row {w:World} {B T n:Nat} {v:Value} {xs:List Value} (h:w.ownsRow B T 1 v n xs) (hn:0 < n):
 ∃ g cap,v= .slice (some ⟨g,0,none⟩) n cap∧B≤g∧g < w.heap.size∧n≤cap∧∀ j,j < n→w.cell? ⟨g,j,none⟩=xs[j]? :=by
 rcases h.2 with ⟨_,h0⟩ | ⟨g,cap,cur,hv,hB,hg,hn',hc,hsz,htake⟩
 · omega
 refine ⟨g,cap,hv,hB,lt_of_blk hg,hn',fun j hj=> ?_⟩
 rw [cell_of_blk hg]
 have h1:(cur.toList.take (n * 1))[j]? =xs[j]? :=by rw [htake]
 rw [List.getElem?_take_of_lt (by omega)] at h1
 rw [← h1,Array.getElem?_toList]
structure GrownOf (w0:World) where
 world:World
 below:Below w0.heap.size w0 world
theorem m_region {P:Program} {C:World→Prop} {id:Nat} {Q:Exit→Act→World→Prop} {a:Act} {w:World} {l:List Oper} (hm:P.follows .mixedOrders=true) (hB:Region.lexB .any l.toArray=true)
 (hC:C { w with drawn:=w.drawn+1 }) (h:wpQuiet P l.toArray C (fun a'=>∀ w',C w'→Q .normal a' w') l a):(Code.region id l.toArray true).wp P Q a w:=
 wp_region_quiet (C:=C) hm hB hC (by simpa using h)
end Go.Proofs.YtdoaeapahgmfoaaGreatDoor
namespace Go.Proofs.YtdoaeapahgmfoaaGreatDoor
open Go.RowKit
def textS (kd tx:List UInt8):List UInt8:=if kd=kStr then quotedL tx else tx
def oneOk (k x:List UInt8):Bool:=decide ((textS k x).length≤6000) && (match lexL (textS k x) with
 | .ok [a,_,_]=>a.kind == k && a.text == x
 | _=>false)
end Go.Proofs.YtdoaeapahgmfoaaGreatDoor

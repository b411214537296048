/- The lexer's token: a word or a name. The lexer's token: an int. -/
import Derived.Test.YtdoaeapahgmfoaaGreatDoorZ03
namespace Go.Proofs.YtdoaeapahgmfoaaGreatDoor
open Go.RowKit
theorem slice_from (s:ByteArray) (i:Nat) (h:i≤s.size) (w:World):
 (Instr.slice 9 (.string s) (some (.int .i64 (i:Int))) none none).run Tryz.prog w= .ok (.string (s.extract i s.size)) w:=by
 rw [run_slice_string_from_if w 9 s .i64 _ Tryz.underlying9,if_pos ⟨by omega,by omega⟩]
 rfl
theorem slice_mid (s:ByteArray) (i j:Nat) (h:i≤j) (h2:j≤s.size) (w:World):
 (Instr.slice 9 (.string s) (some (.int .i64 (i:Int))) (some (.int .i64 (j:Int))) none).run Tryz.prog w= .ok (.string (s.extract i j)) w:=by
 rw [run_slice_string w 9 s .i64 .i64 _ _ Tryz.underlying9 (by omega) (by omega) (by omega)]
 rfl
theorem span_at (f:Nat) (p:UInt8→Bool) (hf:ByteFn f p) (x:Nat) (s:ByteArray) (j:Int) (i:Nat) (hj:j=(i:Int)) (w:World) (hs:s.size≤6000) (hi:i≤s.size) (hc:w.cell? ⟨x,0,none⟩=some (.string s)):
 Calls Tryz.prog 82 #[.pointer (some ⟨x,0,none⟩),.int .i64 j,.func (.func f) #[] #[]] w fun e w'=>e= .returned (.int .i64 (spanL p s.data.toList i))∧w=w':=by
 subst hj;exact span_any f p hf x s i w hs hi hc
theorem rest_facts (s:ByteArray) (i:Nat) (hi:i < s.size):∃ (r:ByteArray) (hr0:0 < r.size),r.data.toList=s.data.toList.drop i∧r[0]'hr0=s[i]'hi∧
 ∀ w:World,(Instr.slice 9 (.string s) (some (.int .i64 (i:Int))) none none).run Tryz.prog w= .ok (.string r) w:=by
 have hrl:(s.extract i s.size).data.toList=s.data.toList.drop i:=by simp [List.take_of_length_le]
 have hr0:0 < (s.extract i s.size).size:=by simp;omega
 refine ⟨s.extract i s.size,hr0,hrl,?_,fun w=>slice_from s i (by omega) w⟩
 have:(s.extract i s.size).data.toList[0]'(by simpa using hr0)=s.data.toList[i]'(by simpa using hi):=by simp only [hrl];simp
 exact this
theorem mid_facts (s:ByteArray) (i n m:Nat) (hm:m=i+n) (hi:m≤s.size):∃ (t:ByteArray),t.data.toList=(s.data.toList.drop i).take n∧t.size=n∧
 ∀ w:World,(Instr.slice 9 (.string s) (some (.int .i64 (i:Int))) (some (.int .i64 (m:Int))) none).run Tryz.prog w= .ok (.string t) w:=by
 subst hm
 refine ⟨s.extract i (i+n),?_,?_,fun w=>slice_mid s i (i+n) (by omega) hi w⟩
 · simp
 · simp;omega
theorem contains_toBA (zs:List (List UInt8)) (t:ByteArray):Lib.containsS (zs.map toBA) t=zs.contains t.data.toList:=by
 rw [Bool.eq_iff_iff,Lib.containsS_iff,List.contains_iff_mem,List.mem_map]
 constructor
 · rintro ⟨a,ha,rfl⟩;exact ha
 · intro h;exact ⟨_,h,rfl⟩
theorem contains_words {b off c:Nat} {w:World} (hw:∀ j (hj:j < (wordsL.map toBA).length),w.cell? ⟨b,off+j,none⟩=some (.string (wordsL.map toBA)[j])) (t:ByteArray):
 Calls Tryz.prog 41 #[.slice (some ⟨b,off,none⟩) 25 c,.string t] w fun e w'=>e= .returned (.bool (wordsL.contains t.data.toList))∧w=w':=by
 have h:=Tryz.slices_Contains_string b off 25 c (wordsL.map toBA) t w (by decide) (by decide) (fun j hj=>by
  rw [hw j hj,List.getD_eq_getElem?_getD,List.getElem?_eq_getElem hj];rfl)
 refine h.mono ?_
 rintro e w' ⟨rfl,rfl⟩
 exact ⟨by rw [show (wordsL.map toBA).take 25=wordsL.map toBA from rfl,contains_toBA],rfl⟩
set_option maxRecDepth 100000 in
set_option maxHeartbeats 1000000 in
theorem token_word
 {w:World} {x i:Nat} {s:ByteArray} {vo vp:Value} {ts:List Tok} {os:List Nat} (h:LexC w x s i vo vp ts os) (hg:Glob (x - 1) w) (hs:s.size≤6000) (hi:i < s.size) (hts:ts.length≤maxToks)
 (n:Nat) (hn:n=spanL wordB (s.data.toList.drop i) 1) (hl:lowB s[i]=true) (hw:wordsL.contains ((s.data.toList.drop i).take n)=true):
 Calls Tryz.prog 86 #[.pointer (some ⟨x,0,none⟩)] w fun e w'=>e= .returned (.tuple #[])∧
  (∃ vo',LexC w' x s (i+n) vo' vp (ts ++ [⟨kWord,(s.data.toList.drop i).take n,i⟩]) os)∧Stp x w w':=by
 obtain ⟨r,hr0,hrl,hr1,hsl⟩:=rest_facts s i hi
 have c1:=h.c1
 have c0:=h.c0
 have f1:=h.f 1
 have Hrl:=Lib.hid hrl;have Hr1:=Lib.hid hr1
 clear hrl
 have hll:lowB r[0]=true:=by rw [hr1];exact hl
 obtain ⟨m,hm⟩:∃ m,m=i+n:=⟨_,rfl⟩
 have hsp:spanL wordB s.data.toList (i+1)=m:=by rw [spanL_drop,hm,hn]
 have hsz:m≤s.size:=by rw [← hsp];exact (spanL_le _ _ _ (by simp;omega)).2
 have him:i≤m:=by omega
 obtain ⟨t,htl,htn,hsl2⟩:=mid_facts s i n m hm hsz
 have Htl:=Lib.hid htl;have Hsp:=Lib.hid hsp;have Htn:=Lib.hid htn;have Hw:=Lib.hid hw;have Hn:=Lib.hid hn;have Hm:=Lib.hid hm
 clear htl hsp htn hw hr1 hl hn hm
 rw [← Hm.out]
 go_enter Tryz.func86,Tryz.ntmps86
 go_wp2_with fail
 obtain ⟨h0,s0⟩:=h.alloc (.cells #[.string r] 9)
 have hg0:=hg.stp h s0
 have bx0:(w.alloc (.cells #[.string r] 9)).cell? ⟨w.heap.size,0,none⟩=some (.string r):=by rw [cell_of_blk (heap_alloc_new w _)];rfl
 have sf0:=h.safe_new (.cells #[.string r] 9)
 clear c0 c1 f1 h hg
 generalize hW:w.alloc (.cells #[.string r] 9)=W at h0 s0 hg0 bx0 sf0 ⊢
 clear hW
 have c0:=h0.c0
 have c1:=h0.c1
 have f1:=h0.f 1
 refine (low_any _ _).mono ?_;rintro e w' ⟨rfl,rfl⟩
 go_wp2_with fail
 refine (span_at _ _ word_fn x s ((i:Int)+1) (i+1) (by omega) _ hs (by omega) c0).mono ?_;rintro e w' ⟨rfl,rfl⟩
 rw [Hsp.out]
 go_wp2_with fail
 obtain ⟨h1,s1⟩:=h0.setAt m
 have hg1:=hg0.stp h0 s1
 have bx1:=(s1.cell (a:=⟨w.heap.size,0,none⟩) sf0).trans bx0
 have s1':=s0.trans s1
 clear c0 c1 f1 s0 s1 h0 hg0 bx0 sf0
 generalize W.setCell ⟨x,1,none⟩ (.int .i64 (m:Int))=W1 at h1 s1' hg1 bx1 ⊢
 have c0:=h1.c0
 have c1:=h1.c1
 go_quiet (fail)
 have h2:=h1.drewN nq
 have hg2:Glob (x - 1) (W1.drewN nq):=hg1.stp h1 (Stp.drewN _ _ _)
 have s2:=s1'.trans (Stp.drewN x W1 nq)
 clear h1 s1' hg1 bx1 c0 c1
 generalize W1.drewN nq=W2 at h2 s2 hg2 ⊢
 have c0:=h2.c0
 have c1:=h2.c1
 obtain ⟨bw,ow,cw,hw1,_,hw3⟩:=hg2.words
 have Hw3:=Lib.hid hw3;clear hw3
 go_wp2_with fail
 refine (contains_words Hw3.out t).mono ?_;rintro e w' ⟨rfl,rfl⟩
 rw [Htl.out,Hw.out]
 go_wp2_with fail
 refine (put_any h2 _ _ _ hts).mono ?_;rintro e w' ⟨rfl,⟨vo',h3⟩,s3⟩
 have h4:LexC w' x s m vo' vp (ts ++ [⟨kWord,t.data.toList,i⟩]) os:=h3
 rw [Htl.out] at h4
 have s4:=s2.trans s3
 clear h2 s2 hg2 c0 c1 h3 s3
 go_wp2_with fail
 go_end0
 exact ⟨rfl,⟨vo',h4⟩,s4⟩
set_option maxRecDepth 100000 in
set_option maxHeartbeats 1000000 in
theorem token_upword
 {w:World} {x i:Nat} {s:ByteArray} {vo vp:Value} {ts:List Tok} {os:List Nat} (h:LexC w x s i vo vp ts os) (hg:Glob (x - 1) w) (hs:s.size≤6000) (hi:i < s.size) (hts:ts.length≤maxToks)
 (n:Nat) (hn:n=spanL wordB (s.data.toList.drop i) 1) (hlo:lowB s[i]=false) (hl:upB s[i]=true) (hw:wordsL.contains ((s.data.toList.drop i).take n)=true):
 Calls Tryz.prog 86 #[.pointer (some ⟨x,0,none⟩)] w fun e w'=>e= .returned (.tuple #[])∧
  (∃ vo',LexC w' x s (i+n) vo' vp (ts ++ [⟨kWord,(s.data.toList.drop i).take n,i⟩]) os)∧Stp x w w':=by
 obtain ⟨r,hr0,hrl,hr1,hsl⟩:=rest_facts s i hi
 have c1:=h.c1
 have c0:=h.c0
 have f1:=h.f 1
 have Hrl:=Lib.hid hrl;have Hr1:=Lib.hid hr1
 clear hrl
 have hll:upB r[0]=true:=by rw [hr1];exact hl
 obtain ⟨m,hm⟩:∃ m,m=i+n:=⟨_,rfl⟩
 have hsp:spanL wordB s.data.toList (i+1)=m:=by rw [spanL_drop,hm,hn]
 have hsz:m≤s.size:=by rw [← hsp];exact (spanL_le _ _ _ (by simp;omega)).2
 have him:i≤m:=by omega
 obtain ⟨t,htl,htn,hsl2⟩:=mid_facts s i n m hm hsz
 have Htl:=Lib.hid htl;have Hsp:=Lib.hid hsp;have Htn:=Lib.hid htn;have Hw:=Lib.hid hw;have Hn:=Lib.hid hn;have Hm:=Lib.hid hm
 clear htl hsp htn hw hr1 hl hn hm
 have hlf:lowB r[0]=false:=by rw [Hr1.out];exact hlo
 have hu1:65≤(r[0]'hr0).toNat:=(of_decide_eq_true hll).1
 have hu2:(r[0]'hr0).toNat≤90:=(of_decide_eq_true hll).2
 rw [← Hm.out]
 clear hlo hll
 go_enter Tryz.func86,Tryz.ntmps86
 go_wp2_with fail
 obtain ⟨h0,s0⟩:=h.alloc (.cells #[.string r] 9)
 have hg0:=hg.stp h s0
 have bx0:(w.alloc (.cells #[.string r] 9)).cell? ⟨w.heap.size,0,none⟩=some (.string r):=by rw [cell_of_blk (heap_alloc_new w _)];rfl
 have sf0:=h.safe_new (.cells #[.string r] 9)
 clear c0 c1 f1 h hg
 generalize hW:w.alloc (.cells #[.string r] 9)=W at h0 s0 hg0 bx0 sf0 ⊢
 clear hW
 have c0:=h0.c0
 have c1:=h0.c1
 have f1:=h0.f 1
 refine (low_any _ _).mono ?_;rintro e w' ⟨rfl,rfl⟩
 go_wp2_with fail
 refine (span_at _ _ word_fn x s ((i:Int)+1) (i+1) (by omega) _ hs (by omega) c0).mono ?_;rintro e w' ⟨rfl,rfl⟩
 rw [Hsp.out]
 go_wp2_with fail
 obtain ⟨h1,s1⟩:=h0.setAt m
 have hg1:=hg0.stp h0 s1
 have bx1:=(s1.cell (a:=⟨w.heap.size,0,none⟩) sf0).trans bx0
 have s1':=s0.trans s1
 clear c0 c1 f1 s0 s1 h0 hg0 bx0 sf0
 generalize W.setCell ⟨x,1,none⟩ (.int .i64 (m:Int))=W1 at h1 s1' hg1 bx1 ⊢
 have c0:=h1.c0
 have c1:=h1.c1
 go_quiet (fail)
 have h2:=h1.drewN nq
 have hg2:Glob (x - 1) (W1.drewN nq):=hg1.stp h1 (Stp.drewN _ _ _)
 have s2:=s1'.trans (Stp.drewN x W1 nq)
 clear h1 s1' hg1 bx1 c0 c1
 generalize W1.drewN nq=W2 at h2 s2 hg2 ⊢
 have c0:=h2.c0
 have c1:=h2.c1
 obtain ⟨bw,ow,cw,hw1,_,hw3⟩:=hg2.words
 have Hw3:=Lib.hid hw3;clear hw3
 go_wp2_with fail
 refine (contains_words Hw3.out t).mono ?_;rintro e w' ⟨rfl,rfl⟩
 rw [Htl.out,Hw.out]
 go_wp2_with fail
 refine (put_any h2 _ _ _ hts).mono ?_;rintro e w' ⟨rfl,⟨vo',h3⟩,s3⟩
 have h4:LexC w' x s m vo' vp (ts ++ [⟨kWord,t.data.toList,i⟩]) os:=h3
 rw [Htl.out] at h4
 have s4:=s2.trans s3
 clear h2 s2 hg2 c0 c1 h3 s3
 go_wp2_with fail
 go_end0
 exact ⟨rfl,⟨vo',h4⟩,s4⟩
set_option maxRecDepth 100000 in
set_option maxHeartbeats 1000000 in
theorem token_name
 {w:World} {x i:Nat} {s:ByteArray} {vo vp:Value} {ts:List Tok} {os:List Nat} (h:LexC w x s i vo vp ts os) (hg:Glob (x - 1) w) (hs:s.size≤6000) (hi:i < s.size) (hts:ts.length≤maxToks)
 (n:Nat) (hn:n=spanL wordB (s.data.toList.drop i) 1) (hl:lowB s[i]=true) (hw:wordsL.contains ((s.data.toList.drop i).take n)=false) (hn16:n≤16):
 Calls Tryz.prog 86 #[.pointer (some ⟨x,0,none⟩)] w fun e w'=>e= .returned (.tuple #[])∧
  (∃ vo',LexC w' x s (i+n) vo' vp (ts ++ [⟨kName,(s.data.toList.drop i).take n,i⟩]) os)∧Stp x w w':=by
 obtain ⟨r,hr0,hrl,hr1,hsl⟩:=rest_facts s i hi
 have c1:=h.c1
 have c0:=h.c0
 have f1:=h.f 1
 have Hrl:=Lib.hid hrl;have Hr1:=Lib.hid hr1
 clear hrl
 have hll:lowB r[0]=true:=by rw [hr1];exact hl
 obtain ⟨m,hm⟩:∃ m,m=i+n:=⟨_,rfl⟩
 have hsp:spanL wordB s.data.toList (i+1)=m:=by rw [spanL_drop,hm,hn]
 have hsz:m≤s.size:=by rw [← hsp];exact (spanL_le _ _ _ (by simp;omega)).2
 have him:i≤m:=by omega
 obtain ⟨t,htl,htn,hsl2⟩:=mid_facts s i n m hm hsz
 have Htl:=Lib.hid htl;have Hsp:=Lib.hid hsp;have Htn:=Lib.hid htn;have Hw:=Lib.hid hw;have Hn:=Lib.hid hn;have Hm:=Lib.hid hm
 clear htl hsp htn hw hr1 hl hn hm
 have ht16:t.size≤16:=by rw [Htn.out];exact hn16
 rw [← Hm.out]
 go_enter Tryz.func86,Tryz.ntmps86
 go_wp2_with fail
 obtain ⟨h0,s0⟩:=h.alloc (.cells #[.string r] 9)
 have hg0:=hg.stp h s0
 have bx0:(w.alloc (.cells #[.string r] 9)).cell? ⟨w.heap.size,0,none⟩=some (.string r):=by rw [cell_of_blk (heap_alloc_new w _)];rfl
 have sf0:=h.safe_new (.cells #[.string r] 9)
 clear c0 c1 f1 h hg
 generalize hW:w.alloc (.cells #[.string r] 9)=W at h0 s0 hg0 bx0 sf0 ⊢
 clear hW
 have c0:=h0.c0
 have c1:=h0.c1
 have f1:=h0.f 1
 refine (low_any _ _).mono ?_;rintro e w' ⟨rfl,rfl⟩
 go_wp2_with fail
 refine (span_at _ _ word_fn x s ((i:Int)+1) (i+1) (by omega) _ hs (by omega) c0).mono ?_;rintro e w' ⟨rfl,rfl⟩
 rw [Hsp.out]
 go_wp2_with fail
 obtain ⟨h1,s1⟩:=h0.setAt m
 have hg1:=hg0.stp h0 s1
 have bx1:=(s1.cell (a:=⟨w.heap.size,0,none⟩) sf0).trans bx0
 have s1':=s0.trans s1
 clear c0 c1 f1 s0 s1 h0 hg0 bx0 sf0
 generalize W.setCell ⟨x,1,none⟩ (.int .i64 (m:Int))=W1 at h1 s1' hg1 bx1 ⊢
 have c0:=h1.c0
 have c1:=h1.c1
 go_quiet (fail)
 have h2:=h1.drewN nq
 have hg2:Glob (x - 1) (W1.drewN nq):=hg1.stp h1 (Stp.drewN _ _ _)
 have s2:=s1'.trans (Stp.drewN x W1 nq)
 clear h1 s1' hg1 bx1 c0 c1
 generalize W1.drewN nq=W2 at h2 s2 hg2 ⊢
 have c0:=h2.c0
 have c1:=h2.c1
 obtain ⟨bw,ow,cw,hw1,_,hw3⟩:=hg2.words
 have Hw3:=Lib.hid hw3;clear hw3
 go_wp2_with fail
 refine (contains_words Hw3.out t).mono ?_;rintro e w' ⟨rfl,rfl⟩
 rw [Htl.out,Hw.out]
 go_wp2_with fail
 refine (low_any _ _).mono ?_;rintro e w' ⟨rfl,rfl⟩
 go_wp2_with fail
 refine (put_any h2 _ _ _ hts).mono ?_;rintro e w' ⟨rfl,⟨vo',h3⟩,s3⟩
 have h4:LexC w' x s m vo' vp (ts ++ [⟨kName,t.data.toList,i⟩]) os:=h3
 rw [Htl.out] at h4
 have s4:=s2.trans s3
 clear h2 s2 hg2 c0 c1 h3 s3
 go_wp2_with fail
 go_end0
 exact ⟨rfl,⟨vo',h4⟩,s4⟩
set_option maxRecDepth 100000 in
set_option maxHeartbeats 1000000 in
theorem token_long
 {w:World} {x i:Nat} {s:ByteArray} {vo vp:Value} {ts:List Tok} {os:List Nat} (h:LexC w x s i vo vp ts os) (hg:Glob (x - 1) w) (hs:s.size≤6000) (hi:i < s.size)
 (n:Nat) (hn:n=spanL wordB (s.data.toList.drop i) 1) (hl:lowB s[i]=true) (hw:wordsL.contains ((s.data.toList.drop i).take n)=false) (hn16:16 < n):
 Calls Tryz.prog 86 #[.pointer (some ⟨x,0,none⟩)] w fun e w'=>e= .panicked [{ v:= .iface 105 (.int .i64 i),recovered:=false }]∧Stp x w w':=by
 obtain ⟨r,hr0,hrl,hr1,hsl⟩:=rest_facts s i hi
 have c1:=h.c1
 have c0:=h.c0
 have f1:=h.f 1
 have Hrl:=Lib.hid hrl;have Hr1:=Lib.hid hr1
 clear hrl
 have hll:lowB r[0]=true:=by rw [hr1];exact hl
 obtain ⟨m,hm⟩:∃ m,m=i+n:=⟨_,rfl⟩
 have hsp:spanL wordB s.data.toList (i+1)=m:=by rw [spanL_drop,hm,hn]
 have hsz:m≤s.size:=by rw [← hsp];exact (spanL_le _ _ _ (by simp;omega)).2
 have him:i≤m:=by omega
 obtain ⟨t,htl,htn,hsl2⟩:=mid_facts s i n m hm hsz
 have Htl:=Lib.hid htl;have Hsp:=Lib.hid hsp;have Htn:=Lib.hid htn;have Hw:=Lib.hid hw;have Hn:=Lib.hid hn;have Hm:=Lib.hid hm
 clear htl hsp htn hw hr1 hl hn hm
 have ht16:16 < t.size:=by rw [Htn.out];exact hn16
 go_enter Tryz.func86,Tryz.ntmps86
 go_wp2_with fail
 obtain ⟨h0,s0⟩:=h.alloc (.cells #[.string r] 9)
 have hg0:=hg.stp h s0
 have bx0:(w.alloc (.cells #[.string r] 9)).cell? ⟨w.heap.size,0,none⟩=some (.string r):=by rw [cell_of_blk (heap_alloc_new w _)];rfl
 have sf0:=h.safe_new (.cells #[.string r] 9)
 clear c0 c1 f1 h hg
 generalize hW:w.alloc (.cells #[.string r] 9)=W at h0 s0 hg0 bx0 sf0 ⊢
 clear hW
 have c0:=h0.c0
 have c1:=h0.c1
 have f1:=h0.f 1
 refine (low_any _ _).mono ?_;rintro e w' ⟨rfl,rfl⟩
 go_wp2_with fail
 refine (span_at _ _ word_fn x s ((i:Int)+1) (i+1) (by omega) _ hs (by omega) c0).mono ?_;rintro e w' ⟨rfl,rfl⟩
 rw [Hsp.out]
 go_wp2_with fail
 obtain ⟨h1,s1⟩:=h0.setAt m
 have hg1:=hg0.stp h0 s1
 have bx1:=(s1.cell (a:=⟨w.heap.size,0,none⟩) sf0).trans bx0
 have s1':=s0.trans s1
 clear c0 c1 f1 s0 s1 h0 hg0 bx0 sf0
 generalize W.setCell ⟨x,1,none⟩ (.int .i64 (m:Int))=W1 at h1 s1' hg1 bx1 ⊢
 have c0:=h1.c0
 have c1:=h1.c1
 go_quiet (fail)
 have h2:=h1.drewN nq
 have hg2:Glob (x - 1) (W1.drewN nq):=hg1.stp h1 (Stp.drewN _ _ _)
 have s2:=s1'.trans (Stp.drewN x W1 nq)
 clear h1 s1' hg1 bx1 c0 c1
 generalize W1.drewN nq=W2 at h2 s2 hg2 ⊢
 have c0:=h2.c0
 have c1:=h2.c1
 obtain ⟨bw,ow,cw,hw1,_,hw3⟩:=hg2.words
 have Hw3:=Lib.hid hw3;clear hw3
 go_wp2_with fail
 refine (contains_words Hw3.out t).mono ?_;rintro e w' ⟨rfl,rfl⟩
 rw [Htl.out,Hw.out]
 go_wp2_with fail
 refine (low_any _ _).mono ?_;rintro e w' ⟨rfl,rfl⟩
 go_wp2_with fail
 exact ⟨rfl,rfl,s2⟩
set_option maxRecDepth 100000 in
set_option maxHeartbeats 1000000 in
theorem token_upbad
 {w:World} {x i:Nat} {s:ByteArray} {vo vp:Value} {ts:List Tok} {os:List Nat} (h:LexC w x s i vo vp ts os) (hg:Glob (x - 1) w) (hs:s.size≤6000) (hi:i < s.size)
 (n:Nat) (hn:n=spanL wordB (s.data.toList.drop i) 1) (hlo:lowB s[i]=false) (hl:upB s[i]=true) (hw:wordsL.contains ((s.data.toList.drop i).take n)=false):
 Calls Tryz.prog 86 #[.pointer (some ⟨x,0,none⟩)] w fun e w'=>e= .panicked [{ v:= .iface 105 (.int .i64 i),recovered:=false }]∧Stp x w w':=by
 obtain ⟨r,hr0,hrl,hr1,hsl⟩:=rest_facts s i hi
 have c1:=h.c1
 have c0:=h.c0
 have f1:=h.f 1
 have Hrl:=Lib.hid hrl;have Hr1:=Lib.hid hr1
 clear hrl
 have hll:upB r[0]=true:=by rw [hr1];exact hl
 obtain ⟨m,hm⟩:∃ m,m=i+n:=⟨_,rfl⟩
 have hsp:spanL wordB s.data.toList (i+1)=m:=by rw [spanL_drop,hm,hn]
 have hsz:m≤s.size:=by rw [← hsp];exact (spanL_le _ _ _ (by simp;omega)).2
 have him:i≤m:=by omega
 obtain ⟨t,htl,htn,hsl2⟩:=mid_facts s i n m hm hsz
 have Htl:=Lib.hid htl;have Hsp:=Lib.hid hsp;have Htn:=Lib.hid htn;have Hw:=Lib.hid hw;have Hn:=Lib.hid hn;have Hm:=Lib.hid hm
 clear htl hsp htn hw hr1 hl hn hm
 have hlf:lowB r[0]=false:=by rw [Hr1.out];exact hlo
 have hu1:65≤(r[0]'hr0).toNat:=(of_decide_eq_true hll).1
 have hu2:(r[0]'hr0).toNat≤90:=(of_decide_eq_true hll).2
 clear hlo hll
 go_enter Tryz.func86,Tryz.ntmps86
 go_wp2_with fail
 obtain ⟨h0,s0⟩:=h.alloc (.cells #[.string r] 9)
 have hg0:=hg.stp h s0
 have bx0:(w.alloc (.cells #[.string r] 9)).cell? ⟨w.heap.size,0,none⟩=some (.string r):=by rw [cell_of_blk (heap_alloc_new w _)];rfl
 have sf0:=h.safe_new (.cells #[.string r] 9)
 clear c0 c1 f1 h hg
 generalize hW:w.alloc (.cells #[.string r] 9)=W at h0 s0 hg0 bx0 sf0 ⊢
 clear hW
 have c0:=h0.c0
 have c1:=h0.c1
 have f1:=h0.f 1
 refine (low_any _ _).mono ?_;rintro e w' ⟨rfl,rfl⟩
 go_wp2_with fail
 refine (span_at _ _ word_fn x s ((i:Int)+1) (i+1) (by omega) _ hs (by omega) c0).mono ?_;rintro e w' ⟨rfl,rfl⟩
 rw [Hsp.out]
 go_wp2_with fail
 obtain ⟨h1,s1⟩:=h0.setAt m
 have hg1:=hg0.stp h0 s1
 have bx1:=(s1.cell (a:=⟨w.heap.size,0,none⟩) sf0).trans bx0
 have s1':=s0.trans s1
 clear c0 c1 f1 s0 s1 h0 hg0 bx0 sf0
 generalize W.setCell ⟨x,1,none⟩ (.int .i64 (m:Int))=W1 at h1 s1' hg1 bx1 ⊢
 have c0:=h1.c0
 have c1:=h1.c1
 go_quiet (fail)
 have h2:=h1.drewN nq
 have hg2:Glob (x - 1) (W1.drewN nq):=hg1.stp h1 (Stp.drewN _ _ _)
 have s2:=s1'.trans (Stp.drewN x W1 nq)
 clear h1 s1' hg1 bx1 c0 c1
 generalize W1.drewN nq=W2 at h2 s2 hg2 ⊢
 have c0:=h2.c0
 have c1:=h2.c1
 obtain ⟨bw,ow,cw,hw1,_,hw3⟩:=hg2.words
 have Hw3:=Lib.hid hw3;clear hw3
 go_wp2_with fail
 refine (contains_words Hw3.out t).mono ?_;rintro e w' ⟨rfl,rfl⟩
 rw [Htl.out,Hw.out]
 go_wp2_with fail
 refine (low_any _ _).mono ?_;rintro e w' ⟨rfl,rfl⟩
 go_wp2_with fail
 exact ⟨rfl,rfl,s2⟩
end Go.Proofs.YtdoaeapahgmfoaaGreatDoor
namespace Go.Proofs.YtdoaeapahgmfoaaGreatDoor
open Go.RowKit
theorem parseInt_ok (t:ByteArray) (w:World) (ht:t.size≤6000) (h:parsesInt t.data.toList=true):
 Calls Tryz.prog 134 #[.string t,.int .i64 10,.int .i64 64] w fun e w'=>(∃ v:Int,e= .returned (.tuple #[.int .i64 v,.nilIface]))∧Below w.heap.size w w':=by
 unfold parsesInt at h
 split at h
 · rename_i v hv
   refine (Tryz.strconv_ParseInt_10_at64_ok t (by omega) v hv w).mono ?_
   rintro e w' ⟨rfl,h1 | ⟨t,h1⟩⟩
   · subst h1;exact ⟨⟨v,rfl⟩,Below.refl _ _⟩
   · subst h1;exact ⟨⟨v,rfl⟩,Lib.bytesWorld_below _ _ _⟩
 · cases h
theorem parseInt_bad (t:ByteArray) (w:World) (ht:t.size≤6000) (B:Nat) (hg:Glob B w) (h:parsesInt t.data.toList=false):
 Calls Tryz.prog 134 #[.string t,.int .i64 10,.int .i64 64] w fun e w'=>(∃ (v:Int) (N:Nat),e= .returned (.tuple #[.int .i64 v,.iface 260 (.pointer (some ⟨N,0,none⟩))]))∧Below w.heap.size w w':=by
 obtain ⟨te,pe,hs⟩:=hg.syn
 obtain ⟨te2,pe2,hr⟩:=hg.ran
 unfold parsesInt at h
 rcases hp:Lib.parseIntB 64 t.data.toList with v | _ | _
 · rw [hp] at h;cases h
 · refine (Tryz.strconv_ParseInt_10_at64_syntax t (by omega) (by rw [hp];intro h;cases h) (by rw [hp];intro v h;cases h) _ w hs (.inr ⟨_,_,rfl⟩)).mono ?_
   rintro e w' ⟨N,rfl,_,_,hB⟩
   exact ⟨⟨_,N,rfl⟩,hB⟩
 · refine (Tryz.strconv_ParseInt_10_at64_range t (by omega) hp _ w hr (.inr ⟨_,_,rfl⟩)).mono ?_
   rintro e w' ⟨N,rfl,_,_,hB⟩
   exact ⟨⟨_,N,rfl⟩,hB⟩
theorem text_first {s t:ByteArray} {i n:Nat} (hi:i < s.size) (htl:t.data.toList=(s.data.toList.drop i).take n) (h0:0 < t.size):t[0]'h0=s[i]'hi:=by
 have:t.data.toList[0]'(by simpa using h0)=s.data.toList[i]'(by simpa using hi):=by simp only [htl];simp
 exact this
set_option maxRecDepth 100000 in
set_option maxHeartbeats 1000000 in
theorem token_int
 {w:World} {x i:Nat} {s:ByteArray} {vo vp:Value} {ts:List Tok} {os:List Nat} (h:LexC w x s i vo vp ts os) (hg:Glob (x - 1) w) (hs:s.size≤6000) (hi:i < s.size)
 (hts:ts.length≤maxToks) (n:Nat) (hn:n=spanL digitB (s.data.toList.drop i) 0) (hl:digitB s[i]=true) (hp:parsesInt ((s.data.toList.drop i).take n)=true)
 (hz:¬ (1 < n∧s[i].toNat=48)):
 Calls Tryz.prog 86 #[.pointer (some ⟨x,0,none⟩)] w fun e w'=>e= .returned (.tuple #[])∧
  (∃ vo',LexC w' x s (i+n) vo' vp (ts ++ [⟨kInt,(s.data.toList.drop i).take n,i⟩]) os)∧Stp x w w':=by
 have Hl:=Lib.hid hl
 obtain ⟨r,hr0,hrl,hr1,hsl⟩:=rest_facts s i hi
 have c1:=h.c1
 have c0:=h.c0
 have f1:=h.f 1
 have Hrl:=Lib.hid hrl;have Hr1:=Lib.hid hr1
 clear hrl
 have hd:digitB r[0]=true:=by rw [hr1];exact hl
 have hd1:48≤(r[0]'hr0).toNat:=(of_decide_eq_true hd).1
 have hd2:(r[0]'hr0).toNat≤57:=(of_decide_eq_true hd).2
 have hlf:lowB r[0]=false:=by unfold lowB;rw [decide_eq_false_iff_not];omega
 obtain ⟨m,hm⟩:∃ m,m=i+n:=⟨_,rfl⟩
 have hsp:spanL digitB s.data.toList i=m:=by have:=spanL_drop digitB s.data.toList i 0;simp only [Nat.add_zero] at this;rw [this,hm,hn]
 have hsz:m≤s.size:=by rw [← hsp];exact (spanL_le _ _ _ (by simp;omega)).2
 have him:i≤m:=by omega
 obtain ⟨t,htl,htn,hsl2⟩:=mid_facts s i n m hm hsz
 have ht6:t.size≤6000:=by omega
 have hpt:parsesInt t.data.toList=true:=by rw [htl];exact hp
 have Htl:=Lib.hid htl;have Hsp:=Lib.hid hsp;have Htn:=Lib.hid htn;have Hn:=Lib.hid hn;have Hm:=Lib.hid hm;have Hpt:=Lib.hid hpt
 clear htl hsp htn hr1 hl hn hm hp hd hpt
 rw [← Hm.out]
 go_enter Tryz.func86,Tryz.ntmps86
 go_wp2_with fail
 obtain ⟨h0,s0⟩:=h.alloc (.cells #[.string r] 9)
 have hg0:=hg.stp h s0
 have bx0:(w.alloc (.cells #[.string r] 9)).cell? ⟨w.heap.size,0,none⟩=some (.string r):=by rw [cell_of_blk (heap_alloc_new w _)];rfl
 have sf0:=h.safe_new (.cells #[.string r] 9)
 clear c0 c1 f1 h hg
 generalize hW:w.alloc (.cells #[.string r] 9)=W at h0 s0 hg0 bx0 sf0 ⊢
 clear hW
 have c0:=h0.c0
 have c1:=h0.c1
 have f1:=h0.f 1
 refine (low_any _ _).mono ?_;rintro e w' ⟨rfl,rfl⟩
 go_wp2_with fail
 refine (digit_any _ _).mono ?_;rintro e w' ⟨rfl,rfl⟩
 have hd:digitB r[0]=true:=by rw [Hr1.out];exact Hl.out
 go_wp2_with fail
 refine (span_any _ _ digit_fn x s i _ hs (by omega) c0).mono ?_;rintro e w' ⟨rfl,rfl⟩
 rw [Hsp.out]
 go_wp2_with fail
 obtain ⟨h1,s1⟩:=h0.setAt m
 have hg1:=hg0.stp h0 s1
 have bx1:=(s1.cell (a:=⟨w.heap.size,0,none⟩) sf0).trans bx0
 have s1':=s0.trans s1
 clear c0 c1 f1 s0 s1 h0 hg0 bx0 sf0
 generalize W.setCell ⟨x,1,none⟩ (.int .i64 (m:Int))=W1 at h1 s1' hg1 bx1 ⊢
 have c0:=h1.c0
 have c1:=h1.c1
 go_quiet (fail)
 have h2:=h1.drewN nq
 have hg2:Glob (x - 1) (W1.drewN nq):=hg1.stp h1 (Stp.drewN _ _ _)
 have s2:=s1'.trans (Stp.drewN x W1 nq)
 clear h1 s1' hg1 bx1 c0 c1
 generalize W1.drewN nq=W2 at h2 s2 hg2 ⊢
 have c0:=h2.c0
 have c1:=h2.c1
 go_wp2_with fail
 refine (parseInt_ok t _ ht6 Hpt.out).mono ?_;rintro e w' ⟨⟨v,rfl⟩,hB⟩
 obtain ⟨h3,s3⟩:=h2.grow hB
 have s4:=s2.trans s3
 clear h2 s2 s3 hB c0 c1 hg2
 by_cases h1n:1 < n
 · have ht1:1 < t.size:=by rw [Htn.out];exact h1n
   have tz:(((t[0]'(by omega)).toNat:Int) == 48)=false:=by
    rw [beq_eq_false_iff_ne,text_first hi Htl.out (by omega)]
    intro e;exact hz ⟨h1n,by omega⟩
   clear hz
   go_wp2_with fail
   refine (put_any h3 _ _ _ hts).mono ?_;rintro e w' ⟨rfl,⟨vo',h5⟩,s5⟩
   have h6:LexC w' x s m vo' vp (ts ++ [⟨kInt,t.data.toList,i⟩]) os:=h5
   rw [Htl.out] at h6
   have s6:=s4.trans s5
   clear h3 s4 h5 s5
   go_wp2_with fail
   go_end0
   exact ⟨rfl,⟨vo',h6⟩,s6⟩
 · have ht1:t.size≤1:=by rw [Htn.out];omega
   clear hz
   go_wp2_with fail
   refine (put_any h3 _ _ _ hts).mono ?_;rintro e w' ⟨rfl,⟨vo',h5⟩,s5⟩
   have h6:LexC w' x s m vo' vp (ts ++ [⟨kInt,t.data.toList,i⟩]) os:=h5
   rw [Htl.out] at h6
   have s6:=s4.trans s5
   clear h3 s4 h5 s5
   go_wp2_with fail
   go_end0
   exact ⟨rfl,⟨vo',h6⟩,s6⟩
set_option maxRecDepth 100000 in
set_option maxHeartbeats 1000000 in
theorem token_zero
 {w:World} {x i:Nat} {s:ByteArray} {vo vp:Value} {ts:List Tok} {os:List Nat} (h:LexC w x s i vo vp ts os) (hg:Glob (x - 1) w) (hs:s.size≤6000) (hi:i < s.size)
 (n:Nat) (hn:n=spanL digitB (s.data.toList.drop i) 0) (hl:digitB s[i]=true) (hp:parsesInt ((s.data.toList.drop i).take n)=true)
 (hz:1 < n∧s[i].toNat=48):
 Calls Tryz.prog 86 #[.pointer (some ⟨x,0,none⟩)] w fun e w'=>e= .panicked [{ v:= .iface 105 (.int .i64 i),recovered:=false }]∧Stp x w w':=by
 have Hl:=Lib.hid hl
 obtain ⟨r,hr0,hrl,hr1,hsl⟩:=rest_facts s i hi
 have c1:=h.c1
 have c0:=h.c0
 have f1:=h.f 1
 have Hrl:=Lib.hid hrl;have Hr1:=Lib.hid hr1
 clear hrl
 have hd:digitB r[0]=true:=by rw [hr1];exact hl
 have hd1:48≤(r[0]'hr0).toNat:=(of_decide_eq_true hd).1
 have hd2:(r[0]'hr0).toNat≤57:=(of_decide_eq_true hd).2
 have hlf:lowB r[0]=false:=by unfold lowB;rw [decide_eq_false_iff_not];omega
 obtain ⟨m,hm⟩:∃ m,m=i+n:=⟨_,rfl⟩
 have hsp:spanL digitB s.data.toList i=m:=by have:=spanL_drop digitB s.data.toList i 0;simp only [Nat.add_zero] at this;rw [this,hm,hn]
 have hsz:m≤s.size:=by rw [← hsp];exact (spanL_le _ _ _ (by simp;omega)).2
 have him:i≤m:=by omega
 obtain ⟨t,htl,htn,hsl2⟩:=mid_facts s i n m hm hsz
 have ht6:t.size≤6000:=by omega
 have hpt:parsesInt t.data.toList=true:=by rw [htl];exact hp
 have Htl:=Lib.hid htl;have Hsp:=Lib.hid hsp;have Htn:=Lib.hid htn;have Hn:=Lib.hid hn;have Hm:=Lib.hid hm;have Hpt:=Lib.hid hpt
 clear htl hsp htn hr1 hl hn hm hp hd hpt
 go_enter Tryz.func86,Tryz.ntmps86
 go_wp2_with fail
 obtain ⟨h0,s0⟩:=h.alloc (.cells #[.string r] 9)
 have hg0:=hg.stp h s0
 have bx0:(w.alloc (.cells #[.string r] 9)).cell? ⟨w.heap.size,0,none⟩=some (.string r):=by rw [cell_of_blk (heap_alloc_new w _)];rfl
 have sf0:=h.safe_new (.cells #[.string r] 9)
 clear c0 c1 f1 h hg
 generalize hW:w.alloc (.cells #[.string r] 9)=W at h0 s0 hg0 bx0 sf0 ⊢
 clear hW
 have c0:=h0.c0
 have c1:=h0.c1
 have f1:=h0.f 1
 refine (low_any _ _).mono ?_;rintro e w' ⟨rfl,rfl⟩
 go_wp2_with fail
 refine (digit_any _ _).mono ?_;rintro e w' ⟨rfl,rfl⟩
 have hd:digitB r[0]=true:=by rw [Hr1.out];exact Hl.out
 go_wp2_with fail
 refine (span_any _ _ digit_fn x s i _ hs (by omega) c0).mono ?_;rintro e w' ⟨rfl,rfl⟩
 rw [Hsp.out]
 go_wp2_with fail
 obtain ⟨h1,s1⟩:=h0.setAt m
 have hg1:=hg0.stp h0 s1
 have bx1:=(s1.cell (a:=⟨w.heap.size,0,none⟩) sf0).trans bx0
 have s1':=s0.trans s1
 clear c0 c1 f1 s0 s1 h0 hg0 bx0 sf0
 generalize W.setCell ⟨x,1,none⟩ (.int .i64 (m:Int))=W1 at h1 s1' hg1 bx1 ⊢
 have c0:=h1.c0
 have c1:=h1.c1
 go_quiet (fail)
 have h2:=h1.drewN nq
 have hg2:Glob (x - 1) (W1.drewN nq):=hg1.stp h1 (Stp.drewN _ _ _)
 have s2:=s1'.trans (Stp.drewN x W1 nq)
 clear h1 s1' hg1 bx1 c0 c1
 generalize W1.drewN nq=W2 at h2 s2 hg2 ⊢
 have c0:=h2.c0
 have c1:=h2.c1
 go_wp2_with fail
 refine (parseInt_ok t _ ht6 Hpt.out).mono ?_;rintro e w' ⟨⟨v,rfl⟩,hB⟩
 obtain ⟨h3,s3⟩:=h2.grow hB
 have s4:=s2.trans s3
 clear h2 s2 s3 hB c0 c1 hg2
 have ht1:1 < t.size:=by rw [Htn.out];exact hz.1
 have tz:(((t[0]'(by omega)).toNat:Int) == 48)=true:=by
  rw [beq_iff_eq,text_first hi Htl.out (by omega)]
  have:=hz.2;omega
 clear hz
 go_wp2_with fail
 exact ⟨rfl,rfl,s4⟩
set_option maxRecDepth 100000 in
set_option maxHeartbeats 1000000 in
theorem token_range
 {w:World} {x i:Nat} {s:ByteArray} {vo vp:Value} {ts:List Tok} {os:List Nat} (h:LexC w x s i vo vp ts os) (hg:Glob (x - 1) w) (hs:s.size≤6000) (hi:i < s.size)
 (n:Nat) (hn:n=spanL digitB (s.data.toList.drop i) 0) (hl:digitB s[i]=true) (hp:parsesInt ((s.data.toList.drop i).take n)=false):
 Calls Tryz.prog 86 #[.pointer (some ⟨x,0,none⟩)] w fun e w'=>e= .panicked [{ v:= .iface 105 (.int .i64 i),recovered:=false }]∧Stp x w w':=by
 have Hl:=Lib.hid hl
 obtain ⟨r,hr0,hrl,hr1,hsl⟩:=rest_facts s i hi
 have c1:=h.c1
 have c0:=h.c0
 have f1:=h.f 1
 have Hrl:=Lib.hid hrl;have Hr1:=Lib.hid hr1
 clear hrl
 have hd:digitB r[0]=true:=by rw [hr1];exact hl
 have hd1:48≤(r[0]'hr0).toNat:=(of_decide_eq_true hd).1
 have hd2:(r[0]'hr0).toNat≤57:=(of_decide_eq_true hd).2
 have hlf:lowB r[0]=false:=by unfold lowB;rw [decide_eq_false_iff_not];omega
 obtain ⟨m,hm⟩:∃ m,m=i+n:=⟨_,rfl⟩
 have hsp:spanL digitB s.data.toList i=m:=by have:=spanL_drop digitB s.data.toList i 0;simp only [Nat.add_zero] at this;rw [this,hm,hn]
 have hsz:m≤s.size:=by rw [← hsp];exact (spanL_le _ _ _ (by simp;omega)).2
 have him:i≤m:=by omega
 obtain ⟨t,htl,htn,hsl2⟩:=mid_facts s i n m hm hsz
 have ht6:t.size≤6000:=by omega
 have hpt:parsesInt t.data.toList=false:=by rw [htl];exact hp
 have Htl:=Lib.hid htl;have Hsp:=Lib.hid hsp;have Htn:=Lib.hid htn;have Hn:=Lib.hid hn;have Hm:=Lib.hid hm;have Hpt:=Lib.hid hpt
 clear htl hsp htn hr1 hl hn hm hp hd hpt
 go_enter Tryz.func86,Tryz.ntmps86
 go_wp2_with fail
 obtain ⟨h0,s0⟩:=h.alloc (.cells #[.string r] 9)
 have hg0:=hg.stp h s0
 have bx0:(w.alloc (.cells #[.string r] 9)).cell? ⟨w.heap.size,0,none⟩=some (.string r):=by rw [cell_of_blk (heap_alloc_new w _)];rfl
 have sf0:=h.safe_new (.cells #[.string r] 9)
 clear c0 c1 f1 h hg
 generalize hW:w.alloc (.cells #[.string r] 9)=W at h0 s0 hg0 bx0 sf0 ⊢
 clear hW
 have c0:=h0.c0
 have c1:=h0.c1
 have f1:=h0.f 1
 refine (low_any _ _).mono ?_;rintro e w' ⟨rfl,rfl⟩
 go_wp2_with fail
 refine (digit_any _ _).mono ?_;rintro e w' ⟨rfl,rfl⟩
 have hd:digitB r[0]=true:=by rw [Hr1.out];exact Hl.out
 go_wp2_with fail
 refine (span_any _ _ digit_fn x s i _ hs (by omega) c0).mono ?_;rintro e w' ⟨rfl,rfl⟩
 rw [Hsp.out]
 go_wp2_with fail
 obtain ⟨h1,s1⟩:=h0.setAt m
 have hg1:=hg0.stp h0 s1
 have bx1:=(s1.cell (a:=⟨w.heap.size,0,none⟩) sf0).trans bx0
 have s1':=s0.trans s1
 clear c0 c1 f1 s0 s1 h0 hg0 bx0 sf0
 generalize W.setCell ⟨x,1,none⟩ (.int .i64 (m:Int))=W1 at h1 s1' hg1 bx1 ⊢
 have c0:=h1.c0
 have c1:=h1.c1
 go_quiet (fail)
 have h2:=h1.drewN nq
 have hg2:Glob (x - 1) (W1.drewN nq):=hg1.stp h1 (Stp.drewN _ _ _)
 have s2:=s1'.trans (Stp.drewN x W1 nq)
 clear h1 s1' hg1 bx1 c0 c1
 generalize W1.drewN nq=W2 at h2 s2 hg2 ⊢
 have c0:=h2.c0
 have c1:=h2.c1
 go_wp2_with fail
 refine (parseInt_bad t _ ht6 (x - 1) hg2 Hpt.out).mono ?_;rintro e w' ⟨⟨v,N,rfl⟩,hB⟩
 obtain ⟨h3,s3⟩:=h2.grow hB
 have s4:=s2.trans s3
 clear h2 s2 s3 hB c0 c1 hg2
 go_wp2_with fail
 exact ⟨rfl,rfl,s4⟩
end Go.Proofs.YtdoaeapahgmfoaaGreatDoor

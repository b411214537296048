/- The lexer's token: a str, an op; and all ways of it. Plain data: a line of tokens; all tokens of a text. -/
import Derived.Test.YtdoaeapahgmfoaaGreatDoorZ04
namespace Go.Proofs.YtdoaeapahgmfoaaGreatDoor
open Go.RowKit
theorem unq_le:∀ (l acc:List UInt8) (i:Nat) (t:List UInt8) (n:Nat),unq l acc i=some (t,n)→i < n∧n≤i+l.length:=by
 intro l
 induction hk:l.length using Nat.strongRecOn generalizing l with
 | ind k ih=>
   intro acc i t n h
   match l,hk with
   | [],_=>simp [unq.eq_def] at h
   | c :: r,hk=>
     rw [unq_cons] at h
     simp only [List.length_cons] at hk
     split at h
     · injection h with h;injection h with _ h;subst h;(try simp only [List.length_cons]);omega
     split at h
     · cases h
     split at h
     · have:=ih r.length (by omega) r rfl _ _ _ _ h;(try simp only [List.length_cons]);omega
     split at h
     · cases h
     · rename_i d r2
       simp only [List.length_cons] at hk ⊢
       split at h
       · have:=ih r2.length (by omega) r2 rfl _ _ _ _ h;omega
       split at h
       · have:=ih r2.length (by omega) r2 rfl _ _ _ _ h;omega
       split at h
       · split at h
         · rename_i h1 h2 r3
           simp only [List.length_cons] at hk ⊢
           split at h
           · have:=ih r3.length (by omega) r3 rfl _ _ _ _ h;omega
           · cases h
         · cases h
       · cases h
theorem unqS_le {l:List UInt8} {t:List UInt8} {n:Nat} (h:unqS l=some (t,n)):0 < n∧n≤1+(l.length - 1):=by
 have:=unq_le _ _ _ _ _ h
 simp at this;omega
set_option maxRecDepth 100000 in
set_option maxHeartbeats 1000000 in
theorem token_str
 {w:World} {x i:Nat} {s:ByteArray} {vo vp:Value} {ts:List Tok} {os:List Nat} (h:LexC w x s i vo vp ts os) (hg:Glob (x - 1) w) (hs:s.size≤6000) (hi:i < s.size)
 (hts:ts.length≤maxToks) (hl:s[i].toNat=34) (tx:List UInt8) (n:Nat) (hun:unqS (s.data.toList.drop i)=some (tx,n)):
 Calls Tryz.prog 86 #[.pointer (some ⟨x,0,none⟩)] w fun e w'=>e= .returned (.tuple #[])∧
  (∃ vo',LexC w' x s (i+n) vo' vp (ts ++ [⟨kStr,tx,i⟩]) os)∧Stp x w w':=by
 obtain ⟨r,hr0,hrl,hr1,hsl⟩:=rest_facts s i hi
 have c1:=h.c1
 have c0:=h.c0
 have f1:=h.f 1
 have Hrl:=Lib.hid hrl;have Hr1:=Lib.hid hr1
 clear hrl
 have hrs:r.size=s.size - i:=by have:=congrArg List.length Hrl.out;simpa using this
 have hr6:r.size≤6000:=by omega
 have Hrs:=Lib.hid hrs
 clear hrs
 have hq:(r[0]'hr0).toNat=34:=by rw [hr1];exact hl
 have t34:(((r[0]'hr0).toNat:Int) == 34)=true:=by rw [hq];rfl
 have hlf:lowB r[0]=false:=by unfold lowB;rw [decide_eq_false_iff_not];omega
 have hdf:digitB r[0]=false:=by unfold digitB;rw [decide_eq_false_iff_not];omega
 have hu:(r[0]'hr0).toNat < 65:=by omega
 rw [← Hrl.out] at hun
 have Hun:=Lib.hid hun
 clear hq hun hr1
 have hn6:n≤6000:=by have:=(unqS_le Hun.out).2;simp at this;omega
 go_enter Tryz.func86,Tryz.ntmps86
 go_wp2_with fail
 obtain ⟨h0,s0⟩:=h.alloc (.cells #[.string r] 9)
 have hg0:=hg.stp h s0
 have bx0:(w.alloc (.cells #[.string r] 9)).cell? ⟨w.heap.size,0,none⟩=some (.string r):=by rw [cell_of_blk (heap_alloc_new w _)];rfl
 have sf0:=h.safe_new (.cells #[.string r] 9)
 clear c0 c1 f1 h hg
 generalize hW:w.alloc (.cells #[.string r] 9)=W at h0 s0 hg0 bx0 sf0 ⊢
 clear hW
 have c0:=h0.c0
 have c1:=h0.c1
 have f1:=h0.f 1
 refine (low_any _ _).mono ?_;rintro e w' ⟨rfl,rfl⟩
 go_wp2_with fail
 refine (digit_any _ _).mono ?_;rintro e w' ⟨rfl,rfl⟩
 go_wp2_with fail
 refine (unquote_any r _ hr6 (by omega)).mono ?_;rintro e w' ⟨rfl,hB⟩
 rw [Hun.out]
 obtain ⟨h3,s3⟩:=h0.grow hB
 have s4:=s0.trans s3
 clear h0 s0 s3 hB c0 c1 f1 hg0 bx0 sf0
 simp only [unqAns]
 go_wp2_with fail
 refine (put_any h3 _ _ _ hts).mono ?_;rintro e w' ⟨rfl,⟨vo',h5⟩,s5⟩
 have h6:LexC w' x s i vo' vp (ts ++ [⟨kStr,tx,i⟩]) os:=h5
 have s6:=s4.trans s5
 clear h3 s4 h5 s5
 have c1:=h6.c1
 have f1:=h6.f 1
 go_wp2_with fail
 go_end0
 have h7:=h6.setAt (i+n)
 rw [show ((i+n:Nat):Int)=(i:Int)+n from by omega] at h7
 exact ⟨rfl,⟨vo',h7.1⟩,s6.trans h7.2⟩
set_option maxRecDepth 100000 in
set_option maxHeartbeats 1000000 in
theorem token_nostr
 {w:World} {x i:Nat} {s:ByteArray} {vo vp:Value} {ts:List Tok} {os:List Nat} (h:LexC w x s i vo vp ts os) (hg:Glob (x - 1) w) (hs:s.size≤6000) (hi:i < s.size)
 (hl:s[i].toNat=34) (hun:unqS (s.data.toList.drop i)=none):
 Calls Tryz.prog 86 #[.pointer (some ⟨x,0,none⟩)] w fun e w'=>e= .panicked [{ v:= .iface 105 (.int .i64 i),recovered:=false }]∧Stp x w w':=by
 obtain ⟨r,hr0,hrl,hr1,hsl⟩:=rest_facts s i hi
 have c1:=h.c1
 have c0:=h.c0
 have f1:=h.f 1
 have Hrl:=Lib.hid hrl;have Hr1:=Lib.hid hr1
 clear hrl
 have hrs:r.size=s.size - i:=by have:=congrArg List.length Hrl.out;simpa using this
 have hr6:r.size≤6000:=by omega
 have Hrs:=Lib.hid hrs
 clear hrs
 have hq:(r[0]'hr0).toNat=34:=by rw [hr1];exact hl
 have t34:(((r[0]'hr0).toNat:Int) == 34)=true:=by rw [hq];rfl
 have hlf:lowB r[0]=false:=by unfold lowB;rw [decide_eq_false_iff_not];omega
 have hdf:digitB r[0]=false:=by unfold digitB;rw [decide_eq_false_iff_not];omega
 have hu:(r[0]'hr0).toNat < 65:=by omega
 rw [← Hrl.out] at hun
 have Hun:=Lib.hid hun
 clear hq hun hr1
 go_enter Tryz.func86,Tryz.ntmps86
 go_wp2_with fail
 obtain ⟨h0,s0⟩:=h.alloc (.cells #[.string r] 9)
 have hg0:=hg.stp h s0
 have bx0:(w.alloc (.cells #[.string r] 9)).cell? ⟨w.heap.size,0,none⟩=some (.string r):=by rw [cell_of_blk (heap_alloc_new w _)];rfl
 have sf0:=h.safe_new (.cells #[.string r] 9)
 clear c0 c1 f1 h hg
 generalize hW:w.alloc (.cells #[.string r] 9)=W at h0 s0 hg0 bx0 sf0 ⊢
 clear hW
 have c0:=h0.c0
 have c1:=h0.c1
 have f1:=h0.f 1
 refine (low_any _ _).mono ?_;rintro e w' ⟨rfl,rfl⟩
 go_wp2_with fail
 refine (digit_any _ _).mono ?_;rintro e w' ⟨rfl,rfl⟩
 go_wp2_with fail
 refine (unquote_any r _ hr6 (by omega)).mono ?_;rintro e w' ⟨rfl,hB⟩
 rw [Hun.out]
 obtain ⟨h3,s3⟩:=h0.grow hB
 have s4:=s0.trans s3
 clear h0 s0 s3 hB c0 c1 f1 hg0 bx0 sf0
 simp only [unqAns]
 go_wp2_with fail
 exact ⟨rfl,rfl,s4⟩
theorem firstI_find (q:List UInt8→Bool) (zs:List (List UInt8)):
 (zs.find? q=none→firstI (fun o=>q o.data.toList) (zs.map toBA)= -1)∧
 (∀ o,zs.find? q=some o→∃ (k:Nat) (hk:k < (zs.map toBA).length),firstI (fun o=>q o.data.toList) (zs.map toBA)=(k:Int)∧(zs.map toBA)[k]=toBA o∧q o=true):=by
 constructor
 · intro h
   refine firstI_none fun j hj=> ?_
   rw [List.find?_eq_none] at h
   simp only [List.length_map] at hj
   have:=h zs[j] (List.getElem_mem hj)
   simpa [toBA_list] using this
 · intro o h
   rw [List.find?_eq_some_iff_getElem] at h
   obtain ⟨hq,k,hk,hko,hno⟩:=h
   refine ⟨k,by simpa using hk,firstI_found (by simpa using hk) (fun j hj=> ?_) ?_,by simp [hko],hq⟩
   · have:=hno j hj
     simpa [toBA_list] using this
   · simpa [toBA_list,hko] using hq
set_option maxRecDepth 100000 in
set_option maxHeartbeats 1000000 in
theorem token_op
 {w:World} {x i:Nat} {s:ByteArray} {vo vp:Value} {ts:List Tok} {os:List Nat} (h:LexC w x s i vo vp ts os) (hg:Glob (x - 1) w) (hs:s.size≤6000) (hi:i < s.size)
 (hts:ts.length≤maxToks) (hl1:lowB s[i]=false) (hl2:upB s[i]=false) (hl3:digitB s[i]=false) (hl4:s[i].toNat≠34) (o:List UInt8) (hop:opsL.find? (fun o=>o.isPrefixOf (s.data.toList.drop i))=some o) (hol:o.length≤2):
 Calls Tryz.prog 86 #[.pointer (some ⟨x,0,none⟩)] w fun e w'=>e= .returned (.tuple #[])∧
  (∃ vo',LexC w' x s (i+o.length) vo' vp (ts ++ [⟨kOp,o,i⟩]) os)∧Stp x w w':=by
 obtain ⟨r,hr0,hrl,hr1,hsl⟩:=rest_facts s i hi
 have c1:=h.c1
 have c0:=h.c0
 have f1:=h.f 1
 have Hrl:=Lib.hid hrl;have Hr1:=Lib.hid hr1
 clear hrl
 have hrs:r.size=s.size - i:=by have:=congrArg List.length Hrl.out;simpa using this
 have hr6:r.size≤6000:=by omega
 have Hrs:=Lib.hid hrs
 clear hrs
 have hlf:lowB r[0]=false:=by rw [hr1];exact hl1
 have hdf:digitB r[0]=false:=by rw [hr1];exact hl3
 have t34:(((r[0]'hr0).toNat:Int) == 34)=false:=by rw [hr1,beq_eq_false_iff_ne];omega
 have hu:(r[0]'hr0).toNat < 65∨90 < (r[0]'hr0).toNat:=by rw [hr1];unfold upB at hl2;rw [decide_eq_false_iff_not] at hl2;omega
 rw [← Hrl.out] at hop
 have Hop:=Lib.hid hop
 clear hop hr1 hl1 hl2 hl3 hl4
 have hmf:∀ (fn:Fn) (first cap:Array Value) (w:World),(Instr.makeFunc fn first cap).run Tryz.prog w= .ok (.func fn first cap) w:=fun _ _ _ _=>rfl
 obtain ⟨k,hk,hfi,hko,_⟩:=(firstI_find (fun o=>o.isPrefixOf r.data.toList) opsL).2 o Hop.out
 have Hfi:=Lib.hid hfi;have Hko:=Lib.hid hko
 clear hfi hko
 have hk21:k < 21:=hk
 have hkI:(0:Int)≤(k:Int)∧(k:Int) < 21:=⟨by omega,by omega⟩
 have hkJ:=hkI.1
 have hkK:=hkI.2
 obtain ⟨ob,hob⟩:∃ ob,ob=toBA o:=⟨_,rfl⟩
 have hobn:ob.size=o.length:=by rw [hob];rfl
 have hob2:ob.size≤2:=by omega
 have Hob:=Lib.hid hob;have Hobn:=Lib.hid hobn
 clear hob hobn hol
 rcases hu with hu | hu
 ·
  go_enter Tryz.func86,Tryz.ntmps86
  go_wp2_with fail
  obtain ⟨h0,s0⟩:=h.alloc (.cells #[.string r] 9)
  have hg0:=hg.stp h s0
  have bx0:(w.alloc (.cells #[.string r] 9)).cell? ⟨w.heap.size,0,none⟩=some (.string r):=by rw [cell_of_blk (heap_alloc_new w _)];rfl
  have sf0:=h.safe_new (.cells #[.string r] 9)
  clear c0 c1 f1 h hg
  generalize hW:w.alloc (.cells #[.string r] 9)=W at h0 s0 hg0 bx0 sf0 ⊢
  clear hW
  have c0:=h0.c0
  have c1:=h0.c1
  have f1:=h0.f 1
  refine (low_any _ _).mono ?_;rintro e w' ⟨rfl,rfl⟩
  obtain ⟨bo,oo,co,ho1,_,ho3⟩:=hg0.ops
  have Ho3:=Lib.hid ho3;clear ho3
  go_wp2_with fail
  refine (digit_any _ _).mono ?_;rintro e w' ⟨rfl,rfl⟩
  go_wp2_with fail
  refine (indexFunc_any _ _ _ _ (isop_fn r w.heap.size _ bx0) bo oo 21 co (opsL.map toBA) rfl (by omega) Ho3.out).mono ?_;rintro e w' ⟨rfl,rfl⟩
  have hfi2:firstI (fun o=>Lib.hasPrefix r.data.toList o.data.toList) (opsL.map toBA)=(k:Int):=Hfi.out
  rw [hfi2]
  clear hfi2
  have hcell:W.cell? ⟨bo,oo+k,none⟩=some (.string ob):=by rw [Ho3.out k hk,Hko.out,Hob.out]
  go_wp2_with fail
  refine (put_any h0 _ _ _ hts).mono ?_;rintro e w' ⟨rfl,⟨vo',h5⟩,s5⟩
  have h6:LexC w' x s i vo' vp (ts ++ [⟨kOp,ob.data.toList,i⟩]) os:=h5
  have hg6:=hg0.stp h0 s5
  have s6:=s0.trans s5
  clear h0 s0 h5 s5 hcell ho1 Ho3 c0 c1 f1 hg0 bx0 sf0
  go_wp2_with fail
  refine region_still_tail 12 (by kernel_rfl) (by kernel_rfl) (fun w7 hw7=> ?_)
  have h7:LexC w7 x s i vo' vp (ts ++ [⟨kOp,ob.data.toList,i⟩]) os:=by rw [hw7];exact h6.drewN 1
  have s7:Stp x w w7:=s6.trans (by rw [hw7];exact Stp.drewN _ _ _)
  have hg7:Glob (x - 1) w7:=hg6.stp h6 (by rw [hw7];exact Stp.drewN _ _ _)
  clear hw7 h6 s6 hg6
  obtain ⟨bo,oo,co,ho1,_,ho3⟩:=hg7.ops
  have hcell:w7.cell? ⟨bo,oo+k,none⟩=some (.string ob):=by rw [ho3 k hk,Hko.out,Hob.out]
  have Ho3:=Lib.hid ho3;clear ho3
  have c1:=h7.c1
  have f1:=h7.f 1
  simp only [List.take_succ_cons,List.take_zero,List.drop_succ_cons,List.drop_zero]
  repeat still_step
  refine wpStill_nil ?_
  go_wp2_with fail
  go_end0
  have h8:=h7.setAt (i+ob.size)
  rw [show ((i+ob.size:Nat):Int)=(i:Int)+ob.size from by omega] at h8
  obtain ⟨h8,s8⟩:=h8
  have ho:ob.data.toList=o:=by rw [Hob.out];rfl
  rw [ho] at h8
  refine ⟨rfl,⟨vo',?_⟩,s7.trans s8⟩
  rw [← Hobn.out];exact h8
 ·
  go_enter Tryz.func86,Tryz.ntmps86
  go_wp2_with fail
  obtain ⟨h0,s0⟩:=h.alloc (.cells #[.string r] 9)
  have hg0:=hg.stp h s0
  have bx0:(w.alloc (.cells #[.string r] 9)).cell? ⟨w.heap.size,0,none⟩=some (.string r):=by rw [cell_of_blk (heap_alloc_new w _)];rfl
  have sf0:=h.safe_new (.cells #[.string r] 9)
  clear c0 c1 f1 h hg
  generalize hW:w.alloc (.cells #[.string r] 9)=W at h0 s0 hg0 bx0 sf0 ⊢
  clear hW
  have c0:=h0.c0
  have c1:=h0.c1
  have f1:=h0.f 1
  refine (low_any _ _).mono ?_;rintro e w' ⟨rfl,rfl⟩
  obtain ⟨bo,oo,co,ho1,_,ho3⟩:=hg0.ops
  have Ho3:=Lib.hid ho3;clear ho3
  go_wp2_with fail
  refine (digit_any _ _).mono ?_;rintro e w' ⟨rfl,rfl⟩
  go_wp2_with fail
  refine (indexFunc_any _ _ _ _ (isop_fn r w.heap.size _ bx0) bo oo 21 co (opsL.map toBA) rfl (by omega) Ho3.out).mono ?_;rintro e w' ⟨rfl,rfl⟩
  have hfi2:firstI (fun o=>Lib.hasPrefix r.data.toList o.data.toList) (opsL.map toBA)=(k:Int):=Hfi.out
  rw [hfi2]
  clear hfi2
  have hcell:W.cell? ⟨bo,oo+k,none⟩=some (.string ob):=by rw [Ho3.out k hk,Hko.out,Hob.out]
  go_wp2_with fail
  refine (put_any h0 _ _ _ hts).mono ?_;rintro e w' ⟨rfl,⟨vo',h5⟩,s5⟩
  have h6:LexC w' x s i vo' vp (ts ++ [⟨kOp,ob.data.toList,i⟩]) os:=h5
  have hg6:=hg0.stp h0 s5
  have s6:=s0.trans s5
  clear h0 s0 h5 s5 hcell ho1 Ho3 c0 c1 f1 hg0 bx0 sf0
  go_wp2_with fail
  refine region_still_tail 12 (by kernel_rfl) (by kernel_rfl) (fun w7 hw7=> ?_)
  have h7:LexC w7 x s i vo' vp (ts ++ [⟨kOp,ob.data.toList,i⟩]) os:=by rw [hw7];exact h6.drewN 1
  have s7:Stp x w w7:=s6.trans (by rw [hw7];exact Stp.drewN _ _ _)
  have hg7:Glob (x - 1) w7:=hg6.stp h6 (by rw [hw7];exact Stp.drewN _ _ _)
  clear hw7 h6 s6 hg6
  obtain ⟨bo,oo,co,ho1,_,ho3⟩:=hg7.ops
  have hcell:w7.cell? ⟨bo,oo+k,none⟩=some (.string ob):=by rw [ho3 k hk,Hko.out,Hob.out]
  have Ho3:=Lib.hid ho3;clear ho3
  have c1:=h7.c1
  have f1:=h7.f 1
  simp only [List.take_succ_cons,List.take_zero,List.drop_succ_cons,List.drop_zero]
  repeat still_step
  refine wpStill_nil ?_
  go_wp2_with fail
  go_end0
  have h8:=h7.setAt (i+ob.size)
  rw [show ((i+ob.size:Nat):Int)=(i:Int)+ob.size from by omega] at h8
  obtain ⟨h8,s8⟩:=h8
  have ho:ob.data.toList=o:=by rw [Hob.out];rfl
  rw [ho] at h8
  refine ⟨rfl,⟨vo',?_⟩,s7.trans s8⟩
  rw [← Hobn.out];exact h8
set_option maxRecDepth 100000 in
set_option maxHeartbeats 1000000 in
theorem token_noop
 {w:World} {x i:Nat} {s:ByteArray} {vo vp:Value} {ts:List Tok} {os:List Nat} (h:LexC w x s i vo vp ts os) (hg:Glob (x - 1) w) (hs:s.size≤6000) (hi:i < s.size)
 (hl1:lowB s[i]=false) (hl2:upB s[i]=false) (hl3:digitB s[i]=false) (hl4:s[i].toNat≠34) (hop:opsL.find? (fun o=>o.isPrefixOf (s.data.toList.drop i))=none):
 Calls Tryz.prog 86 #[.pointer (some ⟨x,0,none⟩)] w fun e w'=>e= .panicked [{ v:= .iface 105 (.int .i64 i),recovered:=false }]∧Stp x w w':=by
 obtain ⟨r,hr0,hrl,hr1,hsl⟩:=rest_facts s i hi
 have c1:=h.c1
 have c0:=h.c0
 have f1:=h.f 1
 have Hrl:=Lib.hid hrl;have Hr1:=Lib.hid hr1
 clear hrl
 have hrs:r.size=s.size - i:=by have:=congrArg List.length Hrl.out;simpa using this
 have hr6:r.size≤6000:=by omega
 have Hrs:=Lib.hid hrs
 clear hrs
 have hlf:lowB r[0]=false:=by rw [hr1];exact hl1
 have hdf:digitB r[0]=false:=by rw [hr1];exact hl3
 have t34:(((r[0]'hr0).toNat:Int) == 34)=false:=by rw [hr1,beq_eq_false_iff_ne];omega
 have hu:(r[0]'hr0).toNat < 65∨90 < (r[0]'hr0).toNat:=by rw [hr1];unfold upB at hl2;rw [decide_eq_false_iff_not] at hl2;omega
 rw [← Hrl.out] at hop
 have Hop:=Lib.hid hop
 clear hop hr1 hl1 hl2 hl3 hl4
 have hmf:∀ (fn:Fn) (first cap:Array Value) (w:World),(Instr.makeFunc fn first cap).run Tryz.prog w= .ok (.func fn first cap) w:=fun _ _ _ _=>rfl
 have hfi:=(firstI_find (fun o=>o.isPrefixOf r.data.toList) opsL).1 Hop.out
 have Hfi:=Lib.hid hfi
 clear hfi
 rcases hu with hu | hu
 ·
  go_enter Tryz.func86,Tryz.ntmps86
  go_wp2_with fail
  obtain ⟨h0,s0⟩:=h.alloc (.cells #[.string r] 9)
  have hg0:=hg.stp h s0
  have bx0:(w.alloc (.cells #[.string r] 9)).cell? ⟨w.heap.size,0,none⟩=some (.string r):=by rw [cell_of_blk (heap_alloc_new w _)];rfl
  have sf0:=h.safe_new (.cells #[.string r] 9)
  clear c0 c1 f1 h hg
  generalize hW:w.alloc (.cells #[.string r] 9)=W at h0 s0 hg0 bx0 sf0 ⊢
  clear hW
  have c0:=h0.c0
  have c1:=h0.c1
  have f1:=h0.f 1
  refine (low_any _ _).mono ?_;rintro e w' ⟨rfl,rfl⟩
  obtain ⟨bo,oo,co,ho1,_,ho3⟩:=hg0.ops
  have Ho3:=Lib.hid ho3;clear ho3
  go_wp2_with fail
  refine (digit_any _ _).mono ?_;rintro e w' ⟨rfl,rfl⟩
  go_wp2_with fail
  refine (indexFunc_any _ _ _ _ (isop_fn r w.heap.size _ bx0) bo oo 21 co (opsL.map toBA) rfl (by omega) Ho3.out).mono ?_;rintro e w' ⟨rfl,rfl⟩
  have hfi2:firstI (fun o=>Lib.hasPrefix r.data.toList o.data.toList) (opsL.map toBA)= -1:=Hfi.out
  rw [hfi2]
  clear hfi2
  go_wp2_with fail
  exact ⟨rfl,rfl,s0⟩
 ·
  go_enter Tryz.func86,Tryz.ntmps86
  go_wp2_with fail
  obtain ⟨h0,s0⟩:=h.alloc (.cells #[.string r] 9)
  have hg0:=hg.stp h s0
  have bx0:(w.alloc (.cells #[.string r] 9)).cell? ⟨w.heap.size,0,none⟩=some (.string r):=by rw [cell_of_blk (heap_alloc_new w _)];rfl
  have sf0:=h.safe_new (.cells #[.string r] 9)
  clear c0 c1 f1 h hg
  generalize hW:w.alloc (.cells #[.string r] 9)=W at h0 s0 hg0 bx0 sf0 ⊢
  clear hW
  have c0:=h0.c0
  have c1:=h0.c1
  have f1:=h0.f 1
  refine (low_any _ _).mono ?_;rintro e w' ⟨rfl,rfl⟩
  obtain ⟨bo,oo,co,ho1,_,ho3⟩:=hg0.ops
  have Ho3:=Lib.hid ho3;clear ho3
  go_wp2_with fail
  refine (digit_any _ _).mono ?_;rintro e w' ⟨rfl,rfl⟩
  go_wp2_with fail
  refine (indexFunc_any _ _ _ _ (isop_fn r w.heap.size _ bx0) bo oo 21 co (opsL.map toBA) rfl (by omega) Ho3.out).mono ?_;rintro e w' ⟨rfl,rfl⟩
  have hfi2:firstI (fun o=>Lib.hasPrefix r.data.toList o.data.toList) (opsL.map toBA)= -1:=Hfi.out
  rw [hfi2]
  clear hfi2
  go_wp2_with fail
  exact ⟨rfl,rfl,s0⟩
theorem opsL_short:∀ o ∈ opsL,o.length≤2:=by decide
theorem token_yes {w:World} {x i:Nat} {s:ByteArray} {vo vp:Value} {ts:List Tok} {os:List Nat} (h:LexC w x s i vo vp ts os) (hg:Glob (x - 1) w) (hs:s.size≤6000) (hi:i < s.size) (hts:ts.length≤maxToks)
 (kd tx:List UInt8) (n:Nat) (ht:tokL (s.data.toList.drop i)=some (kd,tx,n)):
 Calls Tryz.prog 86 #[.pointer (some ⟨x,0,none⟩)] w fun e w'=>e= .returned (.tuple #[])∧
  (∃ vo',LexC w' x s (i+n) vo' vp (ts ++ [⟨kd,tx,i⟩]) os)∧Stp x w w':=by
 have hdrop:s.data.toList.drop i=s[i] :: s.data.toList.drop (i+1):=List.drop_eq_getElem_cons (by simpa using hi)
 have ht2:=ht
 rw [hdrop] at ht2
 simp only [tokL] at ht2
 rw [← hdrop] at ht2
 split at ht2
 · rename_i hc
   split at ht2
   · rename_i hw
     injection ht2 with ht2;injection ht2 with hk ht2;injection ht2 with htx hn
     subst hk;subst hn;subst htx
     rcases hlo:lowB s[i] with _ | _
     · rw [hlo] at hc
       exact token_upword h hg hs hi hts _ rfl hlo (hc.resolve_left (by simp)) hw
     · exact token_word h hg hs hi hts _ rfl hlo hw
   · rename_i hw
     split at ht2
     · rename_i hl
       injection ht2 with ht2;injection ht2 with hk ht2;injection ht2 with htx hn
       subst hk;subst hn;subst htx
       exact token_name h hg hs hi hts _ rfl hl.1 (by simpa using hw) hl.2
     · cases ht2
 · rename_i hc
   have hlo:lowB s[i]=false:=by rcases hh:lowB s[i] with _ | _;rfl;exact absurd (.inl hh) hc
   have hup:upB s[i]=false:=by rcases hh:upB s[i] with _ | _;rfl;exact absurd (.inr hh) hc
   split at ht2
   · rename_i hd
     split at ht2
     · rename_i hp
       injection ht2 with ht2;injection ht2 with hk ht2;injection ht2 with htx hn
       subst hk;subst hn;subst htx
       exact token_int h hg hs hi hts _ rfl hd hp.1 hp.2
     · cases ht2
   · rename_i hd
     split at ht2
     · rename_i hq
       split at ht2
       · rename_i t n' hu
         injection ht2 with ht2;injection ht2 with hk ht2;injection ht2 with htx hn
         subst hk;subst hn;subst htx
         exact token_str h hg hs hi hts hq _ _ hu
       · cases ht2
     · rename_i hq
       split at ht2
       · rename_i o ho
         injection ht2 with ht2;injection ht2 with hk ht2;injection ht2 with htx hn
         subst hk;subst hn;subst htx
         exact token_op h hg hs hi hts hlo hup (by simpa using hd) hq _ ho (opsL_short _ (List.mem_of_find?_eq_some ho))
       · cases ht2
theorem token_no {w:World} {x i:Nat} {s:ByteArray} {vo vp:Value} {ts:List Tok} {os:List Nat} (h:LexC w x s i vo vp ts os) (hg:Glob (x - 1) w) (hs:s.size≤6000) (hi:i < s.size)
 (ht:tokL (s.data.toList.drop i)=none):
 Calls Tryz.prog 86 #[.pointer (some ⟨x,0,none⟩)] w fun e w'=>e= .panicked [{ v:= .iface 105 (.int .i64 i),recovered:=false }]∧Stp x w w':=by
 have hdrop:s.data.toList.drop i=s[i] :: s.data.toList.drop (i+1):=List.drop_eq_getElem_cons (by simpa using hi)
 have ht2:=ht
 rw [hdrop] at ht2
 simp only [tokL] at ht2
 rw [← hdrop] at ht2
 split at ht2
 · rename_i hc
   split at ht2
   · cases ht2
   · rename_i hw
     have hw':wordsL.contains ((s.data.toList.drop i).take (spanL wordB (s.data.toList.drop i) 1))=false:=by simpa using hw
     split at ht2
     · cases ht2
     · rename_i hl
       rcases hlo:lowB s[i] with _ | _
       · rw [hlo] at hc
         exact token_upbad h hg hs hi _ rfl hlo (hc.resolve_left (by simp)) hw'
       · exact token_long h hg hs hi _ rfl hlo hw' (by rw [hlo] at hl;simp at hl;omega)
 · rename_i hc
   have hlo:lowB s[i]=false:=by rcases hh:lowB s[i] with _ | _;rfl;exact absurd (.inl hh) hc
   have hup:upB s[i]=false:=by rcases hh:upB s[i] with _ | _;rfl;exact absurd (.inr hh) hc
   split at ht2
   · rename_i hd
     split at ht2
     · cases ht2
     · rename_i hp
       rcases hpp:parsesInt ((s.data.toList.drop i).take (spanL digitB (s.data.toList.drop i) 0)) with _ | _
       · exact token_range h hg hs hi _ rfl hd hpp
       · exact token_zero h hg hs hi _ rfl hd hpp (Decidable.byContradiction fun hz=>hp ⟨hpp,hz⟩)
   · rename_i hd
     split at ht2
     · rename_i hq
       split at ht2
       · cases ht2
       · rename_i hu
         exact token_nostr h hg hs hi hq hu
     · rename_i hq
       split at ht2
       · cases ht2
       · rename_i ho
         exact token_noop h hg hs hi hlo hup (by simpa using hd) hq ho
end Go.Proofs.YtdoaeapahgmfoaaGreatDoor
namespace Go.Proofs.YtdoaeapahgmfoaaGreatDoor
open Go.RowKit
def blankB (b:UInt8):Bool:=b.toNat == 32
theorem blank_fn':ByteFn 81 blankB:=blank_fn
def popL (deep b:Nat):List Nat→List Tok × List Nat
 | []=>([],[])
 | t :: r=>if deep < t then (⟨kDedent,[],b⟩ :: (popL deep b r).1,(popL deep b r).2) else ([],t :: r)
def toksL:Nat→List UInt8→Nat→Except Nat (List Tok × Nat)
 | 0,_,k=> .ok ([],k)
 | f+1,l,k=>if endB l k=true then .ok ([],k) else match tokL (l.drop k) with
   | none=> .error k
   | some (kd,tx,n)=>match toksL f l (commentL l (spanL blankB l (k+n))) with
     | .error e=> .error e
     | .ok (ts,j)=> .ok (⟨kd,tx,k⟩ :: ts,j)
def indL (deep b:Nat) (st:List Nat):List Tok × List Nat:=if st.headD 0 < deep then ([⟨kIndent,[],b⟩],deep :: st) else popL deep b st
def lineL (l:List UInt8) (i:Nat) (st:List Nat):Except Nat (List Tok × Nat × List Nat):=
 if endB l (commentL l (spanL blankB l i))=true then .ok ([],commentL l (spanL blankB l i)+1,st)
 else if (indL (spanL blankB l i - i) (spanL blankB l i) st).2.headD 0 < spanL blankB l i - i then .error (spanL blankB l i)
 else match toksL (l.length+1) l (spanL blankB l i) with
  | .error e=> .error e
  | .ok (ts,k)=> .ok ((indL (spanL blankB l i - i) (spanL blankB l i) st).1 ++ ts ++ [⟨kNewline,[],k⟩],k+1,(indL (spanL blankB l i - i) (spanL blankB l i) st).2)
theorem endB_lt {l:List UInt8} {k:Nat} (h:endB l k=false):k < l.length:=by
 rcases Nat.lt_or_ge k l.length with h1 | h1
 · exact h1
 · unfold endB at h;rw [List.getElem?_eq_none h1] at h;cases h
theorem comment_noend {l:List UInt8} {b:Nat} (h:endB l (commentL l b)=false):commentL l b=b:=by
 unfold commentL at h ⊢
 split
 · rfl
 · rename_i c hc
   rw [hc] at h
   simp only at h
   split at h
   · rename_i h35
     exfalso
     have hlt:=endB_lt h
     unfold endB at h
     rw [List.getElem?_eq_getElem hlt] at h
     simp only [beq_eq_false_iff_ne] at h
     have hstop:∀ (m:Nat) (p:UInt8→Bool) (b:Nat),l.length - b=m→(hlt:spanL p l b < l.length)→p (l[spanL p l b]'hlt)=false:=by
      intro m
      induction m with
      | zero=>intro p b hm hl;rw [spanL_end p l b (by omega)] at hl;omega
      | succ m ih=>
        intro p b hm hl
        have hb':b < l.length:=by omega
        rcases hp:p l[b] with _ | _
        · have:=spanL_no p l b hb' hp
          simp only [this];exact hp
        · have e:=spanL_yes p l b hb' hp
          simp only [e]
          exact ih p (b+1) (by omega) (by rw [← e];exact hl)
     have:=hstop _ _ _ rfl hlt
     simp at this
     exact h this
   · rename_i h35
     rw [if_neg h35]
theorem tokL_pos {r kd tx:List UInt8} {n:Nat} (h:tokL r=some (kd,tx,n)):0 < n∧n≤r.length:=by
 match r,h with
 | [],h=>simp [tokL] at h
 | c :: r',h=>
   have hw:∀ p:UInt8→Bool,1≤spanL p (c :: r') 1∧spanL p (c :: r') 1≤(c :: r').length:=fun p=>spanL_le p _ 1 (by simp)
   simp only [tokL] at h
   split at h
   · split at h
     · injection h with h;injection h with _ h;injection h with _ h;have:=hw wordB;omega
     · split at h
       · injection h with h;injection h with _ h;injection h with _ h;have:=hw wordB;omega
       · cases h
   · split at h
     · rename_i hd
       split at h
       · injection h with h;injection h with _ h;injection h with _ h
         have h1:spanL digitB (c :: r') 0=spanL digitB (c :: r') 1:=spanL_yes digitB (c :: r') 0 (by simp) hd
         have:=hw digitB;omega
       · cases h
     · split at h
       · split at h
         · rename_i t m hu
           injection h with h;injection h with _ h;injection h with _ h
           have:=unqS_le hu;simp at this ⊢;omega
         · cases h
       · split at h
         · rename_i o ho
           injection h with h;injection h with _ h;injection h with _ h
           have hm:=List.mem_of_find?_eq_some ho
           have hp:=List.find?_some ho
           have h1:∀ o ∈ opsL,0 < o.length:=by decide
           have:=h1 o hm
           have:=(List.isPrefixOf_iff_prefix.1 hp).length_le
           omega
         · cases h
theorem toksL_le:∀ (f:Nat) (l:List UInt8) (k:Nat) (ts:List Tok) (j:Nat),k≤l.length→toksL f l k= .ok (ts,j)→k≤j∧j≤l.length∧ts.length≤j - k:=by
 intro f
 induction f with
 | zero=>intro l k ts j hk h;simp [toksL] at h;obtain ⟨rfl,rfl⟩:=h;simp;exact hk
 | succ f ih=>
   intro l k ts j hk h
   rw [toksL] at h
   split at h
   · injection h with h;injection h with h1 h2;subst h1;subst h2;simp;exact hk
   · split at h
     · cases h
     · rename_i kd tx n ht
       have hn:=tokL_pos ht
       simp only [List.length_drop] at hn
       split at h
       · cases h
       · rename_i ts' j' he
         injection h with h;injection h with h1 h2;subst h1;subst h2
         have h1:=spanL_le blankB l (k+n) (by omega)
         have h2:=commentL_le l _ h1.2
         have:=ih l _ _ _ h2.2 he
         simp only [List.length_cons]
         omega
theorem toksL_fuel:∀ (f g:Nat) (l:List UInt8) (k:Nat),k≤l.length→l.length < k+f→l.length < k+g→toksL f l k=toksL g l k:=by
 intro f
 induction f with
 | zero=>intro g l k h1 h2 h3;omega
 | succ f ih=>
   intro g l k h1 h2 h3
   match g,h3 with
   | 0,h3=>omega
   | g+1,h3=>
     rw [toksL,toksL]
     split
     · rfl
     · split
       · rfl
       · rename_i kd tx n ht
         have hn:=tokL_pos ht
         simp only [List.length_drop] at hn
         have a1:=spanL_le blankB l (k+n) (by omega)
         have a2:=commentL_le l _ a1.2
         rw [ih g l _ a2.2 (by omega) (by omega)]
def toksT (l:List UInt8) (k:Nat):Except Nat (List Tok × Nat):=toksL (l.length+1 - k) l k
theorem toksT_end {l:List UInt8} {k:Nat} (hk:k≤l.length) (h:endB l k=true):toksT l k= .ok ([],k):=by
 unfold toksT;rw [show l.length+1 - k=(l.length - k)+1 from by omega,toksL,if_pos h]
theorem toksT_no {l:List UInt8} {k:Nat} (hk:k≤l.length) (h:endB l k=false) (ht:tokL (l.drop k)=none):toksT l k= .error k:=by
 unfold toksT;rw [show l.length+1 - k=(l.length - k)+1 from by omega,toksL,if_neg (by simp [h]),ht]
theorem toksT_yes {l:List UInt8} {k:Nat} (hk:k≤l.length) (h:endB l k=false) {kd tx:List UInt8} {n:Nat} (ht:tokL (l.drop k)=some (kd,tx,n)):
 toksT l k=match toksT l (commentL l (spanL blankB l (k+n))) with
  | .error e=> .error e
  | .ok (ts,j)=> .ok (⟨kd,tx,k⟩ :: ts,j):=by
 have hn:=tokL_pos ht
 simp only [List.length_drop] at hn
 have a1:=spanL_le blankB l (k+n) (by omega)
 have a2:=commentL_le l _ a1.2
 unfold toksT
 rw [show l.length+1 - k=(l.length - k)+1 from by omega,toksL,if_neg (by simp [h]),ht]
 simp only
 rw [toksL_fuel (l.length - k) (l.length+1 - commentL l (spanL blankB l (k+n))) l _ a2.2 (by omega) (by omega)]
theorem popL_sum (deep b:Nat) (st:List Nat):(popL deep b st).1.length+(popL deep b st).2.length=st.length:=by
 induction st with
 | nil=>rfl
 | cons t r ih=>unfold popL;split <;> simp <;> omega
theorem popL_ne (deep b:Nat) (st:List Nat) (h:st.getLast? =some 0):(popL deep b st).2.getLast? =some 0:=by
 induction st with
 | nil=>simp at h
 | cons t r ih=>
   unfold popL;split
   · rename_i hd
     match r,h,ih with
     | [],h,_=>simp at h;omega
     | u :: r',h,ih=>exact ih (by simpa using h)
   · exact h
theorem indL_ne (deep b:Nat) (st:List Nat) (h:st.getLast? =some 0):(indL deep b st).2.getLast? =some 0:=by
 unfold indL;split
 · match st,h with
   | u :: r,h=>simpa using h
 · exact popL_ne deep b st h
theorem lineL_ne {l:List UInt8} {i:Nat} {st st':List Nat} {ts:List Tok} {j:Nat} (h:st.getLast? =some 0) (hl:lineL l i st= .ok (ts,j,st')):st'.getLast? =some 0:=by
 unfold lineL at hl
 split at hl
 · injection hl with hl;injection hl with _ hl;injection hl with _ hl;subst hl;exact h
 · split at hl
   · cases hl
   · split at hl
     · cases hl
     · injection hl with hl;injection hl with _ hl;injection hl with _ hl;subst hl;exact indL_ne _ _ _ h
theorem lineL_sum {l:List UInt8} {i:Nat} {st st':List Nat} {ts:List Tok} {j:Nat} (hi:i≤l.length) (hl:lineL l i st= .ok (ts,j,st')):
 i < j∧j≤l.length+1∧ts.length+st'.length≤st.length+3 * (j - i):=by
 have hb:=spanL_le blankB l i hi
 have hc:=commentL_le l _ hb.2
 unfold lineL at hl
 split at hl
 · injection hl with hl;injection hl with h1 hl;injection hl with h2 h3;subst h1;subst h2;subst h3
   simp;omega
 · split at hl
   · cases hl
   · split at hl
     · cases hl
     · rename_i ts0 k hk
       have:=toksL_le _ _ _ _ _ hb.2 hk
       injection hl with hl;injection hl with h1 hl;injection hl with h2 h3;subst h1;subst h2;subst h3
       have hp:(indL (spanL blankB l i - i) (spanL blankB l i) st).1.length+(indL (spanL blankB l i - i) (spanL blankB l i) st).2.length≤st.length+2:=by
        unfold indL;split
        · simp;omega
        · have:=popL_sum (spanL blankB l i - i) (spanL blankB l i) st;omega
       simp only [List.length_append,List.length_cons,List.length_nil]
       omega
end Go.Proofs.YtdoaeapahgmfoaaGreatDoor

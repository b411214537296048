/- The writer's state; must, look, deeper. Token.text: one token as a text, and whether it is one: exactly. The writer's name. -/
import Derived.Test.YtdoaeapahgmfoaaGreatDoorZ07
import Derived.Test.YtdoaeapahgmfoaaGreatDoorZ09
namespace Go.Proofs.YtdoaeapahgmfoaaGreatDoor
open Go.RowKit
structure WrC (w:World) (x:Nat) (st:WS) (p v:Value) (l:List UInt8):Prop where
 blk:w.heap[x]? =some (.cells #[p,v,.int .i64 (st.inn:Int),.int .i64 (st.n:Int),.bool st.ok] 79 (0,0))
 addr:p= .pointer none∨p= .pointer (some ⟨x,0,none⟩)
 buf:w.ownsRow x 5 1 v l.length (byteCells l)
 len:l.length=st.len
 ne:v.ownBlock≠some x
def WSafe (w:World) (x k:Nat):Prop:=k < w.heap.size∧k≠x∧∀ p v a b c T,w.heap[x]? =some (.cells #[p,v,a,b,c] T (0,0))→v.ownBlock≠some k
structure WStp (x:Nat) (w w':World):Prop where
 os:w'.os=w.os
 tape:w'.tape=w.tape
 output:w'.output=w.output
 size:w.heap.size≤w'.heap.size
 safe:∀ k,WSafe w x k→WSafe w' x k∧w'.heap[k]? =w.heap[k]?
theorem WStp.refl (x:Nat) (w:World):WStp x w w:=⟨rfl,rfl,rfl,Nat.le_refl _,fun _ h=>⟨h,rfl⟩⟩
theorem WStp.trans {x:Nat} {a b c:World} (h:WStp x a b) (k:WStp x b c):WStp x a c:=
 ⟨k.os.trans h.os,k.tape.trans h.tape,k.output.trans h.output,Nat.le_trans h.size k.size,fun n hn=>
   let h1:=h.safe n hn;let h2:=k.safe n h1.1;⟨h2.1,h2.2.trans h1.2⟩⟩
theorem WStp.cell {x:Nat} {w w':World} (h:WStp x w w') {a:Addr} (hs:WSafe w x a.block):w'.cell? a=w.cell? a:=World.cell?_of_block (h.safe _ hs).2
section
variable {w w':World} {x:Nat} {st st':WS} {p p' v v':Value} {l l':List UInt8}
theorem WrC.lt (h:WrC w x st p v l):x < w.heap.size:=lt_of_blk h.blk
theorem WrC.c0 (h:WrC w x st p v l):w.cell? ⟨x,0,none⟩=some p:=by rw [cell_of_blk h.blk];rfl
theorem WrC.c1 (h:WrC w x st p v l):w.cell? ⟨x,1,none⟩=some v:=by rw [cell_of_blk h.blk];rfl
theorem WrC.c2 (h:WrC w x st p v l):w.cell? ⟨x,2,none⟩=some (.int .i64 (st.inn:Int)):=by rw [cell_of_blk h.blk];rfl
theorem WrC.c3 (h:WrC w x st p v l):w.cell? ⟨x,3,none⟩=some (.int .i64 (st.n:Int)):=by rw [cell_of_blk h.blk];rfl
theorem WrC.c4 (h:WrC w x st p v l):w.cell? ⟨x,4,none⟩=some (.bool st.ok):=by rw [cell_of_blk h.blk];rfl
theorem WrC.f (h:WrC w x st p v l) (o:Nat):w.frozen? ⟨x,o,none⟩=false:=frozen_of_blk h.blk
theorem WrC.own_lt (h:WrC w x st p v l) {k:Nat} (e:v.ownBlock=some k):x < k∧k < w.heap.size:=by
 have:=h.buf.lt k e
 have hne:=h.ne
 rcases Nat.lt_or_ge x k with h1 | h1
 · exact ⟨h1,this.2⟩
 · exfalso;apply hne;rw [e];congr 1;omega
theorem WrC.safe_below (h:WrC w x st p v l) {k:Nat} (hk:k < x):WSafe w x k:=by
 have hx:=h.lt
 refine ⟨by omega,by omega,?_⟩
 intro p' v' a b c T hh
 rw [h.blk] at hh
 injection hh with hh
 injection hh with hh _
 simp only [Array.mk.injEq,List.cons.injEq,and_true] at hh
 obtain ⟨_,rfl,_⟩:=hh
 intro e
 have:=h.own_lt e
 omega
theorem WStp.below (h:WrC w x st p v l) (hs:WStp x w w'):Below x w w':=⟨hs.os,hs.tape,hs.output,hs.size,fun k hk=>(hs.safe k (h.safe_below hk)).2⟩
theorem WrC.next (h:WrC w x st p v l) (h':WrC w' x st' p' v' l') (hos:w'.os=w.os) (htape:w'.tape=w.tape) (hout:w'.output=w.output) (hsize:w.heap.size≤w'.heap.size)
 (keep:∀ k,k < w.heap.size→k≠x→v.ownBlock≠some k→w'.heap[k]? =w.heap[k]?) (ho:∀ k,v'.ownBlock=some k→v.ownBlock=some k∨w.heap.size≤k):WStp x w w':=by
 refine ⟨hos,htape,hout,hsize,?_⟩
 intro k hk
 obtain ⟨hk1,hk2,hk3⟩:=hk
 have hk4:=hk3 _ _ _ _ _ _ h.blk
 refine ⟨⟨by omega,hk2,?_⟩,keep k hk1 hk2 hk4⟩
 intro p'' v'' a b c T hh
 rw [h'.blk] at hh
 injection hh with hh
 injection hh with hh _
 simp only [Array.mk.injEq,List.cons.injEq,and_true] at hh
 obtain ⟨_,rfl,_⟩:=hh
 intro e
 rcases ho k e with e | e
 · exact hk4 e
 · omega
theorem WrC.alloc (h:WrC w x st p v l) (o:Obj):WrC (w.alloc o) x st p v l∧WStp x w (w.alloc o)∧WSafe (w.alloc o) x w.heap.size:=by
 have h1:WrC (w.alloc o) x st p v l:=⟨by rw [Below.heap_alloc _ _ _ h.lt];exact h.blk,h.addr,h.buf.alloc o,h.len,h.ne⟩
 refine ⟨h1,h.next h1 rfl rfl rfl (by simp) (fun k hk _ _=>Below.heap_alloc _ _ _ hk) (fun k e=> .inl e),by simp,by have:=h.lt;omega,?_⟩
 intro p' v' a b c T hh
 rw [h1.blk] at hh
 injection hh with hh
 injection hh with hh _
 simp only [Array.mk.injEq,List.cons.injEq,and_true] at hh
 obtain ⟨_,rfl,_⟩:=hh
 intro e
 have:=h.own_lt e
 omega
theorem WrC.grow (h:WrC w x st p v l) (hb:Below w.heap.size w w'):WrC w' x st p v l∧WStp x w w':=by
 have h1:WrC w' x st p v l:=⟨by rw [hb.block x h.lt];exact h.blk,h.addr,own_below h.buf hb,h.len,h.ne⟩
 exact ⟨h1,h.next h1 hb.os hb.tape hb.output hb.size (fun k hk _ _=>hb.block k hk) (fun k e=> .inl e)⟩
theorem WrC.setOk (h:WrC w x st p v l) (b:Bool):WrC (w.setCell ⟨x,4,none⟩ (.bool b)) x { st with ok:=b } p v l∧WStp x w (w.setCell ⟨x,4,none⟩ (.bool b)):=by
 have h1:WrC (w.setCell ⟨x,4,none⟩ (.bool b)) x { st with ok:=b } p v l:=⟨heap_setCell_at (o:=4) (v:= .bool b) h.blk,h.addr,ownsRow_setCell h.buf h.ne,h.len,h.ne⟩
 exact ⟨h1,h.next h1 rfl rfl rfl (by simp) (fun k _ hk _=>Below.heap_setCell _ _ _ _ hk) (fun k e=> .inl e)⟩
theorem WrC.setN (h:WrC w x st p v l) (n:Nat):WrC (w.setCell ⟨x,3,none⟩ (.int .i64 (n:Int))) x { st with n:=n } p v l∧WStp x w (w.setCell ⟨x,3,none⟩ (.int .i64 (n:Int))):=by
 have h1:WrC (w.setCell ⟨x,3,none⟩ (.int .i64 (n:Int))) x { st with n:=n } p v l:=⟨heap_setCell_at (o:=3) (v:= .int .i64 (n:Int)) h.blk,h.addr,ownsRow_setCell h.buf h.ne,h.len,h.ne⟩
 exact ⟨h1,h.next h1 rfl rfl rfl (by simp) (fun k _ hk _=>Below.heap_setCell _ _ _ _ hk) (fun k e=> .inl e)⟩
theorem WrC.setIn (h:WrC w x st p v l) (n:Nat):WrC (w.setCell ⟨x,2,none⟩ (.int .i64 (n:Int))) x { st with inn:=n } p v l∧WStp x w (w.setCell ⟨x,2,none⟩ (.int .i64 (n:Int))):=by
 have h1:WrC (w.setCell ⟨x,2,none⟩ (.int .i64 (n:Int))) x { st with inn:=n } p v l:=⟨heap_setCell_at (o:=2) (v:= .int .i64 (n:Int)) h.blk,h.addr,ownsRow_setCell h.buf h.ne,h.len,h.ne⟩
 exact ⟨h1,h.next h1 rfl rfl rfl (by simp) (fun k _ hk _=>Below.heap_setCell _ _ _ _ hk) (fun k e=> .inl e)⟩
end
set_option maxRecDepth 100000 in
set_option maxHeartbeats 20000000 in
theorem must_any {w:World} {x:Nat} {st:WS} {p v:Value} {l:List UInt8} (h:WrC w x st p v l) (b:Bool):
 Calls Tryz.prog 63 #[.pointer (some ⟨x,0,none⟩),.bool b] w fun e w'=>e= .returned (.tuple #[])∧WrC w' x (st.must b) p v l∧WStp x w w':=by
 have c4:=h.c4
 have f4:=h.f 4
 have hx:=h.lt
 have hs:=h.setOk (st.ok && b)
 have Hs:=Lib.hid hs;clear hs
 go_enter Tryz.func63,Tryz.ntmps63
 rcases hk:st.ok with _ | _
 · rw [hk] at c4
   have Hk:=Lib.hid hk;clear hk
   go_wp2_with fail
   go_end0
   have:=Hs.out
   rw [Hk.out,Bool.false_and] at this
   exact ⟨rfl,by unfold WS.must;rw [Hk.out,Bool.false_and];exact this.1,this.2⟩
 · rw [hk] at c4
   have Hk:=Lib.hid hk;clear hk
   go_wp2_with fail
   go_end0
   have:=Hs.out
   rw [Hk.out,Bool.true_and] at this
   exact ⟨rfl,by unfold WS.must;rw [Hk.out,Bool.true_and];exact this.1,this.2⟩
set_option maxRecDepth 100000 in
set_option maxHeartbeats 20000000 in
theorem look_any {w:World} {x:Nat} {st:WS} {p v:Value} {l:List UInt8} (h:WrC w x st p v l) (hn:st.n≤100000000):
 Calls Tryz.prog 32 #[.pointer (some ⟨x,0,none⟩)] w fun e w'=>e= .returned (.bool st.look.ok)∧WrC w' x st.look p v l∧WStp x w w':=by
 have c3:=h.c3
 have f3:=h.f 3
 have hx:=h.lt
 obtain ⟨h1,s1⟩:=h.setN (st.n+1)
 have e1:((st.n+1:Nat):Int)=(st.n:Int)+1:=by omega
 rw [e1] at h1 s1
 have H1:=Lib.hid h1;have S1:=Lib.hid s1
 clear h1 s1 e1
 go_enter Tryz.func32,Tryz.ntmps32
 by_cases hle:st.n+1≤6000
 · have u1:decide ((st.n:Int)+1≤6000)=true:=by rw [decide_eq_true_iff];omega
   have hm:=must_any H1.out true
   have hlk:({ st with n:=st.n+1 }:WS).must true=st.look:=by unfold WS.must WS.look;simp [hle]
   rw [hlk] at hm
   have Hm:=Lib.hid hm
   clear hm hlk hle
   go_wp2_with fail
   refine Hm.out.mono ?_
   rintro _ w2 ⟨rfl,h2,s2⟩
   have c4:=h2.c4
   have hst:=S1.out.trans s2
   clear Hm
   go_wp2_with fail
   refine bodyPost_ret (results_tmp rfl _ _ _) rfl ?_
   exact ⟨rfl,h2,hst⟩
 · have u1:decide ((st.n:Int)+1≤6000)=false:=by rw [decide_eq_false_iff_not];omega
   have hm:=must_any H1.out false
   have hlk:({ st with n:=st.n+1 }:WS).must false=st.look:=by unfold WS.must WS.look;simp [hle]
   rw [hlk] at hm
   have Hm:=Lib.hid hm
   clear hm hlk hle
   go_wp2_with fail
   refine Hm.out.mono ?_
   rintro _ w2 ⟨rfl,h2,s2⟩
   have c4:=h2.c4
   have hst:=S1.out.trans s2
   clear Hm
   go_wp2_with fail
   refine bodyPost_ret (results_tmp rfl _ _ _) rfl ?_
   exact ⟨rfl,h2,hst⟩
set_option maxRecDepth 100000 in
set_option maxHeartbeats 20000000 in
theorem deeper_any {w:World} {x:Nat} {st:WS} {p v:Value} {l:List UInt8} (h:WrC w x st p v l) (d:Nat) (hd:d≤100000000):
 Calls Tryz.prog 67 #[.pointer (some ⟨x,0,none⟩),.int .i64 (d:Int)] w fun e w'=>e= .returned (.int .i64 ((d+1:Nat):Int))∧WrC w' x (st.deeper d) p v l∧WStp x w w':=by
 go_enter Tryz.func67,Tryz.ntmps67
 have hm:=must_any h (decide (d < 12))
 have hlk:st.must (decide (d < 12))=st.deeper d:=rfl
 rw [hlk] at hm
 have hdc:decide (d < 12)=decide ((d:Int) < 12):=by rw [Bool.eq_iff_iff];simp;omega
 rw [hdc] at hm
 rcases hb:decide ((d:Int) < 12) with _ | _
 all_goals
  rw [hb] at hm
  have Hm:=Lib.hid hm
  clear hm hlk hdc
  go_wp2_with fail
  refine Hm.out.mono ?_
  rintro _ w2 ⟨rfl,h2,s2⟩
  clear Hm
  go_wp2_with fail
  refine bodyPost_ret (results_tmp rfl _ _ _) rfl ?_
  exact ⟨by first | rfl | (congr 1),h2,s2⟩
end Go.Proofs.YtdoaeapahgmfoaaGreatDoor
namespace Go.Proofs.YtdoaeapahgmfoaaGreatDoor
open Go.RowKit
def LexThree (w w':World) (l:List UInt8) (v e:Value):Prop:=
 (∃ k,lexL l= .error k∧v= .slice none 0 0∧∃ p,e= .iface 107 p)∨∃ ts g cap,lexL l= .ok ts∧0 < ts.length∧v= .slice (some ⟨g,0,none⟩) ts.length cap∧e= .nilIface∧w.heap.size≤g∧g < w'.heap.size∧
   ∀ j (hj:j < ts.length),w'.cell? ⟨g,j * 3,none⟩=some (.string (toBA ts[j].kind))∧w'.cell? ⟨g,j * 3+1,none⟩=some (.string (toBA ts[j].text))∧w'.cell? ⟨g,j * 3+2,none⟩=some (.int .i64 (ts[j].at_:Int))
theorem lex_three {w:World} (s:ByteArray) (hs:s.size≤6000) (hg:GlobE w.heap.size w):
 Calls Tryz.prog 18 #[.string s] w fun e w'=>∃ v1 v2,e= .returned (.tuple #[v1,v2])∧LexThree w w' s.data.toList v1 v2∧Below w.heap.size w w':=by
 refine (lex_any s hs hg).mono ?_
 rintro e w' ⟨hb,h⟩
 rcases hl:lexL s.data.toList with k | ts
 · rw [hl] at h
   obtain ⟨N,te,pe,rfl,_⟩:=h
   exact ⟨_,_,rfl,.inl ⟨k,hl,rfl,_,rfl⟩,hb⟩
 · rw [hl] at h
   obtain ⟨vo,rfl,hown⟩:=h
   obtain ⟨g,cap,rfl,hg1,hg2,hc⟩:=toks_row hown (lexL_pos hl)
   exact ⟨_,_,rfl,.inr ⟨ts,g,cap,hl,lexL_pos hl,rfl,rfl,hg1,hg2,hc⟩,hb⟩
set_option maxRecDepth 100000 in
set_option maxHeartbeats 20000000 in
theorem lex_all {w:World} (s:ByteArray) (hs:s.size≤4000000) (hg:GlobE w.heap.size w):
 Calls Tryz.prog 18 #[.string s] w fun e w'=>∃ v1 v2,e= .returned (.tuple #[v1,v2])∧Below w.heap.size w w'∧
  ((s.size≤6000∧LexThree w w' s.data.toList v1 v2)∨(6000 < s.size∧v1= .slice none 0 0∧∃ te pe,v2= .iface te pe)):=by
 by_cases h:s.size≤6000
 · refine (lex_three s h hg).mono ?_
   rintro e w' ⟨v1,v2,rfl,h2,hb⟩
   exact ⟨v1,v2,rfl,hb,.inl ⟨h,h2⟩⟩
 · obtain ⟨te,pe,hbd⟩:=hg.bound
   refine (lex_long s (by omega) (by omega) te pe hbd).mono ?_
   rintro e w' hpost
   obtain ⟨rfl,hb⟩:=hpost
   exact ⟨_,_,rfl,hb,.inr ⟨by omega,rfl,te,pe,rfl⟩⟩
theorem oneOk_bad {k x:List UInt8} {e:Nat} (h:lexL (textS k x)= .error e):oneOk k x=false:=by
 unfold oneOk;rw [h];simp
theorem oneOk_long {k x:List UInt8} (h:6000 < (textS k x).length):oneOk k x=false:=by
 unfold oneOk;rw [Bool.and_eq_false_iff];left;simp;omega
theorem oneOk_many {k x:List UInt8} {ts:List Tok} (h:lexL (textS k x)= .ok ts) (hl:ts.length≠3):oneOk k x=false:=by
 unfold oneOk;rw [h]
 rcases ts with _ | ⟨a,_ | ⟨b,_ | ⟨c,_ | ⟨d,r⟩⟩⟩⟩
 · simp
 · simp
 · simp
 · simp at hl
 · simp
theorem oneOk_three {k x:List UInt8} {ts:List Tok} (h:lexL (textS k x)= .ok ts) (hl:ts.length=3) (hs:(textS k x).length≤6000):oneOk k x=((ts[0]'(by omega)).kind == k && (ts[0]'(by omega)).text == x):=by
 unfold oneOk;rw [h]
 rcases ts with _ | ⟨a,_ | ⟨b,_ | ⟨c,_ | ⟨d,r⟩⟩⟩⟩
 · simp at hl
 · simp at hl
 · simp at hl
 · simp [hs]
 · simp at hl
end Go.Proofs.YtdoaeapahgmfoaaGreatDoor
namespace Go.Proofs.YtdoaeapahgmfoaaGreatDoor
open Go.RowKit
theorem nameOk_one (s:List UInt8):nameOk s=oneOk kName s:=by
 have h:textS kName s=s:=if_neg (by decide)
 unfold nameOk oneOk
 rw [h]
 rcases lexL s with _ | ts
 · rfl
 · rcases ts with _ | ⟨a,_ | ⟨b,_ | ⟨c,_ | ⟨d,r⟩⟩⟩⟩ <;> rfl
set_option maxRecDepth 100000 in
set_option maxHeartbeats 20000000 in
theorem name_any {w:World} {x:Nat} {st:WS} {p v:Value} {l:List UInt8} (h:WrC w x st p v l) (s:List UInt8) (hs:s.length≤1100000) (hg:GlobE x w):
 Calls Tryz.prog 103 #[.pointer (some ⟨x,0,none⟩),.string (toBA s)] w fun e w'=>e= .returned (.string (toBA s))∧WrC w' x (st.nameW s) p v l∧WStp x w w':=by
 have hts:textS kName s=s:=if_neg (by decide)
 have hgw:GlobE w.heap.size w:=hg.mono (Nat.le_of_lt h.lt)
 have hsz:(toBA s).size≤4000000:=by rw [toBA_len];omega
 go_enter Tryz.func103,Tryz.ntmps103
 go_wp2_with fail
 refine (lex_all (toBA s) hsz hgw).mono ?_
 rintro e w5 ⟨v5,v6,rfl,hb5,h5⟩
 have hW:=h.grow hb5
 rw [toBA_list] at h5
 rcases h5 with ⟨h6,⟨k,hl,rfl,q,rfl⟩ | ⟨ts,g,cap,hl,hpos,rfl,rfl,hgs,hgs2,hc⟩⟩ | ⟨h6,rfl,te,pe,rfl⟩
 · have hno:=oneOk_bad (k:=kName) (x:=s) (by rw [hts];exact hl)
   have Hno:=Lib.hid hno;clear hl hno hts
   have hm:=must_any hW.1 false
   have hlk:st.must false=st.nameW s:=by unfold WS.nameW;rw [nameOk_one,Hno.out]
   rw [hlk] at hm
   have Hm:=Lib.hid hm;have Hst:=Lib.hid hW.2
   clear hm hlk hW
   go_wp2_with fail
   refine Hm.out.mono ?_
   rintro _ w7 ⟨rfl,h7,s7⟩
   have hst:=Hst.out.trans s7
   clear Hm
   go_wp2_with fail
   refine bodyPost_ret (results_tmp rfl _ _ _) rfl ?_
   exact ⟨rfl,h7,hst⟩
 · rcases h3:((ts.length:Int) == 3) with _ | _
   · have hno:=oneOk_many (k:=kName) (x:=s) (by rw [hts];exact hl) (show ts.length≠3 by rw [beq_eq_false_iff_ne] at h3;omega)
     have Hno:=Lib.hid hno;clear hl hno hts hc
     have hm:=must_any hW.1 false
     have hlk:st.must false=st.nameW s:=by unfold WS.nameW;rw [nameOk_one,Hno.out]
     rw [hlk] at hm
     have Hm:=Lib.hid hm;have Hst:=Lib.hid hW.2
     clear hm hlk hW
     go_wp2_with fail
     refine Hm.out.mono ?_
     rintro _ w7 ⟨rfl,h7,s7⟩
     have hst:=Hst.out.trans s7
     clear Hm
     go_wp2_with fail
     refine bodyPost_ret (results_tmp rfl _ _ _) rfl ?_
     exact ⟨rfl,h7,hst⟩
   · have hlen3:ts.length=3:=by rw [beq_iff_eq] at h3;omega
     obtain ⟨k0,k1,_⟩:=hc 0 hpos
     have k0':w5.cell? ⟨g,0,none⟩=some (.string (toBA ts[0].kind)):=k0
     have k1':w5.cell? ⟨g,1,none⟩=some (.string (toBA ts[0].text)):=k1
     have hyes:=oneOk_three (k:=kName) (x:=s) (by rw [hts];exact hl) hlen3 (by rw [hts];rw [toBA_len] at h6;exact h6)
     generalize ts[0].kind=kd0 at k0' hyes
     generalize ts[0].text=tx0 at k1' hyes
     have Hyes:=Lib.hid hyes
     clear k0 k1 hc hl h3 hyes hts
     rw [hlen3]
     rcases e1:((toBA kd0).toList == [110,97,109,101]) with _ | _
     · have hno:oneOk kName s=false:=by
        rw [Hyes.out]
        rw [m_toList] at e1
        have:(kd0 == kName)=false:=e1
        rw [this];rfl
       have Hno:=Lib.hid hno;clear hno
       have hm:=must_any hW.1 false
       have hlk:st.must false=st.nameW s:=by unfold WS.nameW;rw [nameOk_one,Hno.out]
       rw [hlk] at hm
       have Hm:=Lib.hid hm;have Hst:=Lib.hid hW.2
       clear hm hlk hW
       go_wp2_with fail
       refine Hm.out.mono ?_
       rintro _ w7 ⟨rfl,h7,s7⟩
       have hst:=Hst.out.trans s7
       clear Hm
       go_wp2_with fail
       refine bodyPost_ret (results_tmp rfl _ _ _) rfl ?_
       exact ⟨rfl,h7,hst⟩
     · rcases e2:((toBA tx0).toList == (toBA s).toList) with _ | _
       · have hno:oneOk kName s=false:=by
          rw [Hyes.out]
          rw [m_toList,m_toList] at e2
          rw [e2,Bool.and_false]
         have Hno:=Lib.hid hno;clear hno
         have hm:=must_any hW.1 false
         have hlk:st.must false=st.nameW s:=by unfold WS.nameW;rw [nameOk_one,Hno.out]
         rw [hlk] at hm
         have Hm:=Lib.hid hm;have Hst:=Lib.hid hW.2
         clear hm hlk hW
         go_wp2_with fail
         refine Hm.out.mono ?_
         rintro _ w7 ⟨rfl,h7,s7⟩
         have hst:=Hst.out.trans s7
         clear Hm
         go_wp2_with fail
         refine bodyPost_ret (results_tmp rfl _ _ _) rfl ?_
         exact ⟨rfl,h7,hst⟩
       · have hno:oneOk kName s=true:=by
          rw [Hyes.out]
          rw [m_toList] at e1
          rw [m_toList,m_toList] at e2
          have:(kd0 == kName)=true:=e1
          rw [this,e2];rfl
         have Hno:=Lib.hid hno;clear hno
         have hm:=must_any hW.1 true
         have hlk:st.must true=st.nameW s:=by unfold WS.nameW;rw [nameOk_one,Hno.out]
         rw [hlk] at hm
         have Hm:=Lib.hid hm;have Hst:=Lib.hid hW.2
         clear hm hlk hW
         go_wp2_with fail
         refine Hm.out.mono ?_
         rintro _ w7 ⟨rfl,h7,s7⟩
         have hst:=Hst.out.trans s7
         clear Hm
         go_wp2_with fail
         refine bodyPost_ret (results_tmp rfl _ _ _) rfl ?_
         exact ⟨rfl,h7,hst⟩
 · have hno:=oneOk_long (k:=kName) (x:=s) (by rw [hts];rw [toBA_len] at h6;exact h6)
   have Hno:=Lib.hid hno;clear hno hts
   have hm:=must_any hW.1 false
   have hlk:st.must false=st.nameW s:=by unfold WS.nameW;rw [nameOk_one,Hno.out]
   rw [hlk] at hm
   have Hm:=Lib.hid hm;have Hst:=Lib.hid hW.2
   clear hm hlk hW
   go_wp2_with fail
   refine Hm.out.mono ?_
   rintro _ w7 ⟨rfl,h7,s7⟩
   have hst:=Hst.out.trans s7
   clear Hm
   go_wp2_with fail
   refine bodyPost_ret (results_tmp rfl _ _ _) rfl ?_
   exact ⟨rfl,h7,hst⟩
end Go.Proofs.YtdoaeapahgmfoaaGreatDoor

/- The lexer's line. Lex's deferred function: it catches a place that was thrown. -/
import Derived.Deep.DeepCutAuto
import Derived.Defers
import Derived.Laws.EntriesVeiled
import Derived.Recover
import Derived.Test.YtdoaeapahgmfoaaGreatDoorZ05
namespace Go.Proofs.YtdoaeapahgmfoaaGreatDoor
open Go.RowKit
structure LineSt (w W:World) (x bx be:Nat) (s:ByteArray) (i:Nat) (vo vp:Value) (ts:List Tok) (os:List Nat):Prop where
 lex:LexC W x s i vo vp ts os
 stp:Stp x w W
 bxc:W.cell? ⟨bx,0,none⟩=some (.pointer (some ⟨x,0,none⟩))
 bxs:Safe W x bx
 bec:W.cell? ⟨be,0,none⟩=some (.func (.func 83) #[] #[.pointer (some ⟨bx,0,none⟩)])
 bes:Safe W x be
theorem LineSt.step {w W W':World} {x bx be:Nat} {s:ByteArray} {i i':Nat} {vo vp vo' vp':Value} {ts ts':List Tok} {os os':List Nat} (h:LineSt w W x bx be s i vo vp ts os)
 (l:LexC W' x s i' vo' vp' ts' os') (k:Stp x W W'):LineSt w W' x bx be s i' vo' vp' ts' os':=
 ⟨l,h.stp.trans k,(k.cell (a:=⟨bx,0,none⟩) h.bxs).trans h.bxc,(k.safe _ h.bxs).1,(k.cell (a:=⟨be,0,none⟩) h.bes).trans h.bec,(k.safe _ h.bes).1⟩
theorem LexC.top {W:World} {x:Nat} {s:ByteArray} {i:Nat} {vo vp:Value} {ts:List Tok} {t:Nat} {r:List Nat} (h:LexC W x s i vo vp ts (t :: r).reverse):
 ∃ g n cap,vp= .slice (some ⟨g,0,none⟩) n cap∧n=r.length+1∧W.cell? ⟨g,n - 1,none⟩=some (.int .i64 (t:Int)):=by
 have hl:(t :: r).reverse.length=r.length+1:=by simp
 have ho:=h.opn
 obtain ⟨g,cap,hv,_,_⟩:=ho.form (by rw [hl];omega)
 rw [hl] at hv
 refine ⟨g,_,cap,hv,rfl,?_⟩
 rw [hl,hv] at ho
 rw [Nat.add_sub_cancel]
 rw [ho.cellAt r.length (by omega)]
 simp [intCells]
theorem LexC.putOpn {w w1:World} {x i:Nat} {s:ByteArray} {vo vp:Value} {ts:List Tok} {os:List Nat} (h:LexC w x s i vo vp ts os) (D:Nat) {ob:Obj} {g cap n:Nat} (hn:n=os.length+1)
 (hown:w1.ownsRow (x - 1) 3 1 (.slice (some ⟨g,0,none⟩) (os.length+1) cap) (os.length+1) (intCells os ++ [.int .i64 (D:Int)]))
 (hg:((w.alloc ob).drew).grownBy w1 vp.ownBlock) (hat:vp.ownBlock=some g∨g=w.heap.size+1):
 LexC (w1.setCell ⟨x,3,none⟩ (.slice (some ⟨g,0,none⟩) n cap)) x s i vo (.slice (some ⟨g,0,none⟩) n cap) ts (os ++ [D])∧
 Stp x w (w1.setCell ⟨x,3,none⟩ (.slice (some ⟨g,0,none⟩) n cap)):=by
 subst hn
 have hx:=h.lt
 have hgx:(Value.slice (some ⟨g,0,none⟩) (os.length+1) cap).ownBlock≠some x:=by
  intro e
  simp only [Value.ownBlock,Option.some.injEq] at e
  rcases hat with h2 | h2
  · exact h.opn_ne (by rw [h2,e])
  · omega
 have hold:∀ k,k < w.heap.size→vp.ownBlock≠some k→w1.heap[k]? =w.heap[k]? :=by
  intro k hk hne
  rw [hg.block k (by simp;omega) (Ne.symm hne)]
  exact Below.heap_alloc _ _ _ hk
 have hout1:w1.ownsRow (x - 1) 104 3 vo ts.length (tokCells ts):=by
  refine (((h.out.alloc ob).drew).kept hg ?_)
  rcases hvo:vo.ownBlock with _ | k
  · exact .inl rfl
  · right;intro e;exact h.apart hvo e.symm
 have hb1:w1.heap[x]? =some (.cells #[.string s,.int .i64 i,vo,vp] 112 (0,0)):=by rw [hold x hx h.opn_ne,h.blk]
 refine h.next ?_ (ownsRow_setCell hout1 h.out_ne) ?_ hg.os hg.tape hg.output (by have:=hg.size;simp at this ⊢;omega) ?_ (fun k e=> .inl e) ?_
 · rw [heap_setCell_at hb1];rfl
 · have:=ownsRow_setCell (o:=3) (u:= .slice (some ⟨g,0,none⟩) (os.length+1) cap) hown hgx
   rw [intCells_append,List.length_append]
   simpa [intCells] using this
 · intro k hk hne _ hne1
   rw [Below.heap_setCell _ _ _ _ hne,hold k hk hne1]
 · intro k e
   simp only [Value.ownBlock,Option.some.injEq] at e
   subst e
   rcases hat with e | e
   · exact .inl e
   · right;omega
theorem slice_pop (g n cap:Nat) (hn:1≤n) (hc:n≤cap) (w:World):
 (Instr.slice 92 (.slice (some ⟨g,0,none⟩) n cap) none (some (.int .i64 ((n:Int) - 1))) none).run Tryz.prog w= .ok (.slice (some ⟨g,0,none⟩) (n - 1) cap) w:=by
 have h1:0≤(n:Int) - 1∧(n:Int) - 1≤(cap:Int):=⟨by omega,by omega⟩
 have h2:((n:Int) - 1).toNat=n - 1:=by omega
 have h3:(1:Int)≤n:=by omega
 simp [Instr.slice,Instr.sliceBounds,Instr.sliceBound,asIntOf,run_underlying Tryz.underlying92,h1,h2,h3,Addr.add]
theorem LexC.popOpn {w:World} {x i:Nat} {s:ByteArray} {vo:Value} {ts:List Tok} {t:Nat} {r:List Nat} {g n cap:Nat} (h:LexC w x s i vo (.slice (some ⟨g,0,none⟩) n cap) ts (t :: r).reverse) (hn:n=r.length+1):
 LexC (w.setCell ⟨x,3,none⟩ (.slice (some ⟨g,0,none⟩) (n - 1) cap)) x s i vo (.slice (some ⟨g,0,none⟩) (n - 1) cap) ts r.reverse∧
 Stp x w (w.setCell ⟨x,3,none⟩ (.slice (some ⟨g,0,none⟩) (n - 1) cap)):=by
 subst hn
 have ho:=h.opn
 have hgx:=h.opn_ne
 have hl:(t :: r).reverse.length=r.reverse.length+1:=by simp
 rw [hl,show (t :: r).reverse=r.reverse ++ [t] from by simp,intCells_append,show r.length=r.reverse.length from by simp] at ho
 have hp:=ownsRow_pop (by simp [intCells]) ho
 refine h.next ?_ (ownsRow_setCell h.out h.out_ne) ?_ rfl rfl rfl (by simp) ?_ (fun k e=> .inl e) (fun k e=> .inl e)
 · rw [heap_setCell_at h.blk];rfl
 · refine ownsRow_setCell ?_ (by simpa [Value.ownBlock] using hgx)
   simpa using hp
 · intro k _ hk _ _
   exact Below.heap_setCell _ _ _ _ hk
def openLen (W:World) (x:Nat):Nat:=match W.cell? ⟨x,3,none⟩ with
 | some (.slice _ n _)=>n
 | _=>0
theorem LexC.openLen {W:World} {x:Nat} {s:ByteArray} {i:Nat} {vo vp:Value} {ts:List Tok} {os:List Nat} (h:LexC W x s i vo vp ts os):openLen W x=os.length:=by
 unfold Go.Proofs.YtdoaeapahgmfoaaGreatDoor.openLen
 rw [h.c3]
 rcases h.opn.2 with ⟨rfl,h0⟩ | ⟨g,cap,cur,rfl,_⟩
 · exact h0.symm
 · rfl
def kindIs (D t:Nat) (b:Nat) (st:List Nat):List Tok × List Nat:=if t < D then ([⟨kIndent,[],b⟩],D :: st) else ([],st)
def placeLen (W:World) (x:Nat):Nat:=match W.cell? ⟨x,1,none⟩ with
 | some (.int _ n)=>n.toNat
 | _=>0
theorem LexC.placeLen {W:World} {x:Nat} {s:ByteArray} {i:Nat} {vo vp:Value} {ts:List Tok} {os:List Nat} (h:LexC W x s i vo vp ts os):placeLen W x=i:=by
 unfold Go.Proofs.YtdoaeapahgmfoaaGreatDoor.placeLen
 rw [h.c1];simp
def TokRel (l:List UInt8) (j k:Nat) (ts':List Tok):Prop:=toksT l j=match toksT l k with
 | .error e=> .error e
 | .ok (a,e)=> .ok (ts' ++ a,e)
theorem TokRel.start (l:List UInt8) (j:Nat):TokRel l j j []:=by
 unfold TokRel;split
 · rename_i e he;exact he
 · rename_i a e he;exact he
theorem TokRel.next {l:List UInt8} {j k n:Nat} {ts':List Tok} {kd tx:List UInt8} (h:TokRel l j k ts') (hk:k≤l.length) (he:endB l k=false) (ht:tokL (l.drop k)=some (kd,tx,n)):
 TokRel l j (commentL l (spanL blankB l (k+n))) (ts' ++ [⟨kd,tx,k⟩]):=by
 unfold TokRel at h ⊢
 rw [h,toksT_yes hk he ht]
 rcases toksT l (commentL l (spanL blankB l (k+n))) with e | ⟨a,e⟩
 · rfl
 · simp
theorem TokRel.stop {l:List UInt8} {j k:Nat} {ts':List Tok} (h:TokRel l j k ts') (hk:k≤l.length) (he:endB l k=true):toksT l j= .ok (ts',k):=by
 unfold TokRel at h
 rw [h,toksT_end hk he]
 simp
theorem TokRel.bad {l:List UInt8} {j k:Nat} {ts':List Tok} (h:TokRel l j k ts') (hk:k≤l.length) (he:endB l k=false) (ht:tokL (l.drop k)=none):toksT l j= .error k:=by
 unfold TokRel at h
 rw [h,toksT_no hk he ht]
structure LoopSt (w W:World) (x bx be:Nat) (s:ByteArray) (j:Nat) (vo vp:Value) (ts ts':List Tok) (st':List Nat) (D lv:Nat) (st:List Nat):Prop where
 ln:LineSt w W x bx be s j vo vp (ts ++ ts') st'.reverse
 last:st'.getLast? =some 0
 more:D < lv→st'.head? =some lv∧indL D j st=(ts' ++ (popL D j st').1,(popL D j st').2)
 done:lv≤D→(ts',st')=indL D j st
 len:ts'.length+st'.length≤st.length+2
theorem LoopSt.start {w W:World} {x bx be:Nat} {s:ByteArray} {j:Nat} {vo vp:Value} {ts:List Tok} {D t:Nat} {r:List Nat}
 (h:LineSt w W x bx be s j vo vp (ts ++ (kindIs D t j (t :: r)).1) (kindIs D t j (t :: r)).2.reverse) (hst:(t :: r).getLast? =some 0):
 LoopSt w W x bx be s j vo vp ts (kindIs D t j (t :: r)).1 (kindIs D t j (t :: r)).2 D t (t :: r):=by
 have hi:indL D j (t :: r)=if t < D then ([⟨kIndent,[],j⟩],D :: t :: r) else popL D j (t :: r):=rfl
 by_cases htD:t < D
 · have hk:kindIs D t j (t :: r)=([⟨kIndent,[],j⟩],D :: t :: r):=if_pos htD
   rw [hk] at h ⊢
   rw [if_pos htD] at hi
   exact ⟨h,by simpa using hst,fun hh=>by omega,fun _=>hi.symm,by simp <;> omega⟩
 · have hk:kindIs D t j (t :: r)=([],t :: r):=if_neg htD
   rw [hk] at h ⊢
   rw [if_neg htD] at hi
   refine ⟨h,hst,fun hh=>⟨rfl,by rw [hi,List.nil_append]⟩,fun hh=> ?_,by simp <;> omega⟩
   rw [hi,popL,if_neg (by omega)]
theorem LoopSt.pop {w W W':World} {x bx be:Nat} {s:ByteArray} {j:Nat} {vo vp vo' vp':Value} {ts ts':List Tok} {D lv u:Nat} {r'' st:List Nat}
 (h:LoopSt w W x bx be s j vo vp ts ts' (lv :: u :: r'') D lv st) (hlv:D < lv)
 (l:LineSt w W' x bx be s j vo' vp' (ts ++ ts' ++ [⟨kDedent,[],j⟩]) (u :: r'').reverse):
 LoopSt w W' x bx be s j vo' vp' ts (ts' ++ [⟨kDedent,[],j⟩]) (u :: r'') D u st:=by
 have hm:=(h.more hlv).2
 have hp:popL D j (lv :: u :: r'')=(⟨kDedent,[],j⟩ :: (popL D j (u :: r'')).1,(popL D j (u :: r'')).2):=by rw [popL,if_pos hlv]
 rw [hp] at hm
 have hlen:=h.len
 refine ⟨by rw [← List.append_assoc];exact l,by simpa using h.last,fun hu=>⟨rfl,by rw [hm];simp⟩,fun hu=> ?_,by simp at hlen ⊢;omega⟩
 have hp2:popL D j (u :: r'')=([],u :: r''):=by rw [popL,if_neg (by omega)]
 rw [hm,hp2]
def LinePost (w:World) (x:Nat) (s:ByteArray) (ts:List Tok) (res:Except Nat (List Tok × Nat × List Nat)) (e:Ending) (w':World):Prop:=
 match res with
 | .ok (ts',j,st')=>e= .returned (.tuple #[])∧(∃ vo' vp',LexC w' x s j vo' vp' (ts ++ ts') st'.reverse)∧Stp x w w'
 | .error k=>e= .panicked [{ v:= .iface 105 (.int .i64 (k:Int)),recovered:=false }]∧Stp x w w'
set_option maxRecDepth 100000 in
set_option maxHeartbeats 2000000 in
theorem line_any {w:World} {x i:Nat} {s:ByteArray} {vo vp:Value} {ts:List Tok} {st:List Nat} (h:LexC w x s i vo vp ts st.reverse) (hg:Glob (x - 1) w) (hs:s.size≤6000) (hi:i < s.size)
 (hts:ts.length+st.length≤30000) (hst:st.getLast? =some 0):
 Calls Tryz.prog 45 #[.pointer (some ⟨x,0,none⟩)] w (LinePost w x s ts (lineL s.data.toList i st)):=by
 have hb:=spanL_le blankB s.data.toList i (by simp;omega)
 obtain ⟨b,hbd⟩:∃ b,b=spanL blankB s.data.toList i:=⟨_,rfl⟩
 rw [← hbd] at hb
 have hb1:=hb.1
 have hb2:b≤s.size:=by have:=hb.2;simpa using this
 have Hbd:=Lib.hid hbd;clear hbd hb
 have hmf:∀ (fn:Fn) (first cap:Array Value) (w:World),(Instr.makeFunc fn first cap).run Tryz.prog w= .ok (.func fn first cap) w:=fun _ _ _ _=>rfl
 have hec:=enters_comment
 have hee:=enters_end
 obtain ⟨h0,s0⟩:=h.alloc (.cells #[.pointer (some ⟨x,0,none⟩)] 110)
 have bx0:(w.alloc (.cells #[.pointer (some ⟨x,0,none⟩)] 110)).cell? ⟨w.heap.size,0,none⟩=some (.pointer (some ⟨x,0,none⟩)):=by rw [cell_of_blk (heap_alloc_new w _)];rfl
 have sf0:=h.safe_new (.cells #[.pointer (some ⟨x,0,none⟩)] 110)
 have hxl:=h.lt
 have c1:=h0.c1
 go_enter Tryz.func45,Tryz.ntmps45
 go_upto_region 2 with fail
 generalize w.alloc (.cells #[.pointer (some ⟨x,0,none⟩)] 110)=W0 at h0 s0 bx0 sf0 c1 ⊢
 generalize w.heap.size=bx at bx0 sf0 ⊢
 go_wp2_with fail
 refine region_still_tail 7 (by kernel_rfl) (by kernel_rfl) (fun w1 hw1=> ?_)
 have h1:LexC w1 x s i vo vp ts st.reverse:=by rw [hw1];exact h0.drewN 1
 have k1:Stp x W0 w1:=by rw [hw1];exact Stp.drewN _ _ _
 have bx1:=(k1.cell (a:=⟨bx,0,none⟩) sf0).trans bx0
 have sf1:=(k1.safe _ sf0).1
 have s1:=s0.trans k1
 clear hw1 h0 s0 bx0 sf0 k1 c1
 have c0:=h1.c0
 have c1:=h1.c1
 have f1:=h1.f 1
 simp only [List.take_succ_cons,List.take_zero,List.drop_succ_cons,List.drop_zero]
 repeat still_step
 still_call ((span_any _ _ blank_fn' x s i _ hs (by omega) c0).mono fun _ _ ⟨h1,h2⟩=>⟨h1,h2.symm⟩)
 rw [← Hbd.out]
 repeat still_step
 refine wpStill_nil ?_
 go_upto_region 4 with fail
 obtain ⟨h2,k2⟩:=h1.setAt b
 have bx2:=(k2.cell (a:=⟨bx,0,none⟩) sf1).trans bx1
 have sf2:=(k2.safe _ sf1).1
 have s2:=s1.trans k2
 clear h1 bx1 sf1 s1 k2 c0 c1 f1
 generalize w1.setCell ⟨x,1,none⟩ (.int .i64 (b:Int))=W2 at h2 s2 bx2 sf2 ⊢
 go_upto_region 6 with fail
 obtain ⟨h3,k3⟩:=h2.alloc (.cells #[.func (.func 83) #[] #[.pointer (some ⟨bx,0,none⟩)]] 23)
 have be3:(W2.alloc (.cells #[.func (.func 83) #[] #[.pointer (some ⟨bx,0,none⟩)]] 23)).cell? ⟨W2.heap.size,0,none⟩=some (.func (.func 83) #[] #[.pointer (some ⟨bx,0,none⟩)]):=by rw [cell_of_blk (heap_alloc_new W2 _)];rfl
 have sb3:=h2.safe_new (.cells #[.func (.func 83) #[] #[.pointer (some ⟨bx,0,none⟩)]] 23)
 have L3:LineSt w _ x bx W2.heap.size s b vo vp ts st.reverse:=⟨h3,s2.trans k3,(k3.cell (a:=⟨bx,0,none⟩) sf2).trans bx2,(k3.safe _ sf2).1,be3,sb3⟩
 clear h2 s2 bx2 sf2 h3 k3 be3 sb3
 generalize W2.alloc (.cells #[.func (.func 83) #[] #[.pointer (some ⟨bx,0,none⟩)]] 23)=W3 at L3 ⊢
 generalize W2.heap.size=be at L3 ⊢
 have c1:=L3.lex.c1
 have bxc:=L3.bxc
 have bec:=L3.bec
 go_wp2_with fail
 obtain ⟨D,hD⟩:∃ D,D=b - i:=⟨_,rfl⟩
 rw [show ((b:Int) - (i:Int))=(D:Int) from by omega]
 have hD6:D≤6000:=by omega
 have HD:=Lib.hid hD;clear hD
 refine (comment_any L3.lex hs hb2 bxc bec).mono ?_
 rintro e W4 ⟨rfl,l4,k4⟩
 have L4:=L3.step l4 k4
 clear L3 l4 k4 c1 bxc bec
 have hc:=commentL_le s.data.toList b (by simpa using hb2)
 obtain ⟨j,hj⟩:∃ j,j=commentL s.data.toList b:=⟨_,rfl⟩
 rw [← hj] at L4 hc
 have hj1:=hc.1
 have hj2:j≤s.size:=by have:=hc.2;simpa using this
 have Hj:=Lib.hid hj;clear hj hc
 have bxc:=L4.bxc
 have bec:=L4.bec
 go_wp2_with fail
 refine (end_any L4.lex hj2 bxc).mono ?_
 rintro e W5 ⟨rfl,n5,rfl⟩
 have L5:=L4.step (L4.lex.drewN n5) (Stp.drewN x W4 n5)
 clear L4 bxc bec
 generalize W4.drewN n5=W5 at L5 ⊢
 rcases hE:endB s.data.toList j with _ | _
 · have hjb:j=b:=by rw [Hj.out];exact comment_noend (by rw [← Hj.out];exact hE)
   subst hjb
   have hlt:j < s.size:=by simpa using endB_lt hE
   match st,hst,hts,L5 with
   | t :: r,hst,hts,L5=>
   have bxc:=L5.bxc
   obtain ⟨g,n,cap,hvp,hn,hcell⟩:=L5.lex.top
   have hn3:n≤30000:=by simp at hts;omega
   have c3:=L5.lex.c3
   rw [hvp] at c3
   have hw1:IntKind.i64.wrap ((n:Int) - 1)=(n:Int) - 1:=IntWalk.i64_in _ (by omega)
   have hw2:0≤(n:Int) - 1:=by omega
   have hw3:(n:Int) - 1 < (n:Int):=by omega
   have hw4:((n:Int) - 1).toNat=n - 1:=by omega
   have Hn:=Lib.hid hn;have Hvp:=Lib.hid hvp
   clear hn hvp
   go_wp2_with fail
   go_quiet (fail)
   clear hw1 hw2 hw3 hw4
   have L6:=L5.step (L5.lex.drewN nq) (Stp.drewN x W5 nq)
   clear L5 bxc c3 hcell
   generalize W5.drewN nq=W6 at L6 ⊢
   go_upto_if 57 with fail
   go_cut [8] (fun last W=>last= .int .i64 (t:Int)∧∃ vo' vp',LineSt w W x bx be s j vo' vp' (ts ++ (kindIs D t j (t :: r)).1) (kindIs D t j (t :: r)).2.reverse)
   case first=>
    by_cases htD:t < D
    · have hki:kindIs D t j (t :: r)=([⟨kIndent,[],j⟩],D :: t :: r):=if_pos htD
      have Hki:=Lib.hid hki;clear hki
      have bxc:=L6.bxc
      have c3:=L6.lex.c3
      have f3:=L6.lex.f 3
      have hbx:=L6.bxs.1
      have hxx:=L6.lex.lt
      obtain ⟨i0,hi0,hz0,hz1,hz2⟩:=info_parts Tryz.infoInt
      have hown:=L6.lex.opn
      have hA1:((W6.alloc (.cells #[.int .i64 (D:Int)] 3)).drew).cell? ⟨bx,0,none⟩=some (.pointer (some ⟨x,0,none⟩)):=(World.cell?_of_block (Below.heap_alloc _ _ _ hbx)).trans bxc
      have hA2:((W6.alloc (.cells #[.int .i64 (D:Int)] 3)).drew).cell? ⟨x,3,none⟩=some vp:=(World.cell?_of_block (Below.heap_alloc _ _ _ hxx)).trans c3
      have hA3:((W6.alloc (.cells #[.int .i64 (D:Int)] 3)).drew).frozen? ⟨x,3,none⟩=false:=(World.frozen?_of_block (Below.heap_alloc _ _ _ hxx)).trans f3
      have hne1:some bx≠vp.ownBlock:=Ne.symm (L6.bxs.2.2 _ _ _ _ _ L6.lex.blk).2
      have hne2:some x≠vp.ownBlock:=Ne.symm L6.lex.opn_ne
      have Hts:=Lib.hid hts
      clear hts
      go_upto_region 13 with fail
      go_cut [58] (fun _ W=>∃ vp',LineSt w W x bx be s j vo vp' ts (D :: t :: r).reverse)
      case first=>
       go_region_law ((refine step_append_lies _ (by rfl) _ _ _ (by rfl) (x - 1) 3 i0 _ 1 8 Tryz.underlying92 hi0 hz0 hz1 hz2 rfl (by omega) vp (t :: r).reverse.length (intCells (t :: r).reverse) (by rfl) ((hown.alloc _).drew) ⟨W6.heap.size,0,none⟩ 1 1 [.int .i64 (D:Int)] (by rfl) (by rfl) (World.news_of_block (cs:= #[.int .i64 (D:Int)]) (t:=3) (fr:=(0,0)) (heap_alloc_new W6 _)) (by simp [Value.oneCell']) (by omega) (by have:=Hts.out;simp at this ⊢;unfold maxLen;omega) (by have:=Hts.out;simp at this ⊢;omega) (by simp;omega) (W6.heap.size+1) (by simp) ?_;intro gg cap1 w1 hown1 hgrow hat hlt1;have hB0:w1.cell? ⟨bx,0,none⟩=some (.pointer (some ⟨x,0,none⟩)):=(hgrow.cell_far _ (by simp;omega) hne1).trans hA1;have hB1:w1.cell? ⟨x,3,none⟩=some vp:=(hgrow.cell_far _ (by simp;omega) hne2).trans hA2;have hB2:w1.frozen? ⟨x,3,none⟩=false:=(hgrow.frozen_far _ (by simp;omega) hne2).trans hA3))
       all_goals
        (go_wp2_with fail
         go_meet
         case rel=>
          obtain ⟨q,kq⟩:=L6.lex.putOpn D (n:=r.length+1+1) (by simp) hown1 hgrow hat
          exact ⟨_,by rw [show (D :: t :: r).reverse=(t :: r).reverse ++ [D] from by simp];exact L6.step q kq⟩)
      case rest=>
       obtain ⟨vp7,L7⟩:=hcut
       clear bxc c3 f3 hbx hxx hown hne1 hne2 hA1 hA2 hA3 L6
       have bxc:=L7.bxc
       go_wp2_with fail
       refine (put_any L7.lex _ _ _ (by have:=Hts.out;simp at this;unfold maxToks;omega)).mono ?_
       rintro e W8 ⟨rfl,⟨vo8,l8⟩,k8⟩
       have L8:=L7.step l8 k8
       clear L7 l8 k8 bxc
       go_wp2_with fail
       go_meet
       case rel=>
        refine ⟨rfl,vo8,vp7,?_⟩
        rw [Hki.out];exact L8
    · have hki:kindIs D t j (t :: r)=([],t :: r):=if_neg htD
      have Hki:=Lib.hid hki;clear hki
      go_wp2_with fail
      go_meet
      case rel=>
       refine ⟨rfl,vo,vp,?_⟩
       rw [Hki.out,List.append_nil];exact L6
   case rest=>
    obtain ⟨rfl,vo7,vp7,L7⟩:=hcut
    clear L6
    go_wp2_with fail
    go_loopw [8] (fun last W=>∃ (lv:Nat) (vo' vp':Value) (ts':List Tok) (st':List Nat),last= .int .i64 (lv:Int)∧LoopSt w W x bx be s j vo' vp' ts ts' st' D lv (t :: r)) (fun _ W=>openLen W x)
    case atStart=>exact ⟨t,vo7,vp7,_,_,rfl,LoopSt.start L7 hst⟩
    case round=>
     obtain ⟨lv,vo8,vp8,ts8,st8,rfl,L8⟩:=hrel
     by_cases hlv:D < lv
     · match st8,(L8.more hlv).1,L8.last,L8 with
       | [_],hh,hl,_=>simp at hh hl;omega
       | lv' :: u :: r'',hh,hl,L8=>
       obtain rfl:lv'=lv:=by simpa using hh
       clear hh
       have hlen8:=L8.len
       obtain ⟨g8,n8,cap8,hvp8,hn8,_⟩:=L8.ln.lex.top
       have hcap8:n8≤cap8:=by
        have ho:=L8.ln.lex.opn
        rw [hvp8] at ho
        rcases ho.2 with ⟨h1,_⟩ | ⟨_,_,_,h1,_,_,h2,_⟩
        · cases h1
        · injection h1 with _ h3 h4
          rw [h3,h4];exact h2
       have hn83:n8≤40000:=by simp at hlen8 hn8 hts;omega
       clear hlen8
       go_wp2_with fail
       refine region_still_tail 14 (by kernel_rfl) (by kernel_rfl) (fun w9 hw9=> ?_)
       have L9:LineSt w w9 x bx be s j vo8 vp8 (ts ++ ts8) (lv' :: u :: r'').reverse:=L8.ln.step (by rw [hw9];exact L8.ln.lex.drewN 1) (by rw [hw9];exact Stp.drewN _ _ _)
       clear hw9
       have bxc:=L9.bxc
       have c3:=L9.lex.c3
       have f3:=L9.lex.f 3
       rw [hvp8] at c3
       have hw1:IntKind.i64.wrap ((n8:Int) - 1)=(n8:Int) - 1:=IntWalk.i64_in _ (by omega)
       have hw2:0≤(n8:Int) - 1:=by omega
       have hw3:(n8:Int) - 1 < (n8:Int):=by omega
       have hw4:((n8:Int) - 1).toNat=n8 - 1:=by omega
       have hsl9:∀ w:World,(Instr.slice 92 (.slice (some ⟨g8,0,none⟩) n8 cap8) none (some (.int .i64 ((n8:Int) - 1))) none).run Tryz.prog w= .ok (.slice (some ⟨g8,0,none⟩) (n8 - 1) cap8) w:=fun w=>slice_pop g8 n8 cap8 (by omega) hcap8 w
       have Hn8:=Lib.hid hn8;have Hvp8:=Lib.hid hvp8
       clear hn8 hvp8
       simp only [List.take_succ_cons,List.take_zero,List.drop_succ_cons,List.drop_zero]
       repeat still_step
       refine wpStill_nil ?_
       go_wp2_with fail
       obtain ⟨q,kq⟩:LexC (w9.setCell ⟨x,3,none⟩ (.slice (some ⟨g8,0,none⟩) (n8 - 1) cap8)) x s j vo8 (.slice (some ⟨g8,0,none⟩) (n8 - 1) cap8) (ts ++ ts8) (u :: r'').reverse∧Stp x w9 (w9.setCell ⟨x,3,none⟩ (.slice (some ⟨g8,0,none⟩) (n8 - 1) cap8)):=by
        have h9:=L9.lex
        rw [Hvp8.out] at h9
        exact h9.popOpn Hn8.out
       have L10:=L9.step q kq
       have hlen8:=L8.len
       refine (put_any L10.lex _ _ _ (by simp at hlen8 hts ⊢;unfold maxToks;omega)).mono ?_
       rintro e W11 ⟨rfl,⟨vo11,l11⟩,k11⟩
       have L11:=L10.step l11 k11
       clear L10 l11 k11 q kq bxc c3 f3 hw1 hw2 hw3 hw4 hsl9 L9 hlen8
       obtain ⟨g12,n12,cap12,hvp12,hn12,hcell12⟩:=L11.lex.top
       have hn123:n12≤40000:=by have:=Hn8.out;simp at this;omega
       have bxc:=L11.bxc
       have c3:=L11.lex.c3
       rw [hvp12] at c3
       have hw1:IntKind.i64.wrap ((n12:Int) - 1)=(n12:Int) - 1:=IntWalk.i64_in _ (by omega)
       have hw2:0≤(n12:Int) - 1:=by omega
       have hw3:(n12:Int) - 1 < (n12:Int):=by omega
       have hw4:((n12:Int) - 1).toNat=n12 - 1:=by omega
       have Hn12:=Lib.hid hn12;have Hvp12:=Lib.hid hvp12
       clear hn12 hvp12
       go_wp2_with fail
       go_quiet (fail)
       have L13:=L11.step (L11.lex.drewN nq) (Stp.drewN x W11 nq)
       have P13:=L8.pop hlv L13
       have hm:openLen (W11.drewN nq) x < openLen wr x:=by
        rw [L13.lex.openLen,L8.ln.lex.openLen];simp
       clear hw1 hw2 hw3 hw4 bxc c3 hcell12 L11 L13
       generalize W11.drewN nq=W13 at P13 hm ⊢
       go_wp2_with fail
       go_roundw
       case rel=>exact ⟨u,_,_,_,_,rfl,P13⟩
       case measure=>exact hm
     · have hd8:=L8.done (by omega)
       have hlen8:=L8.len
       have L8:=L8
       match st8,L8.last,L8,hd8,hlen8 with
       | t8 :: r8,hl8,L8,hd8,hlen8=>
       have L14:=L8.ln
       clear L8
       obtain ⟨g14,n14,cap14,hvp14,hn14,hcell14⟩:=L14.lex.top
       have hn143:n14≤40000:=by simp at hlen8 hts;omega
       have bxc:=L14.bxc
       have c3:=L14.lex.c3
       rw [hvp14] at c3
       have hw1:IntKind.i64.wrap ((n14:Int) - 1)=(n14:Int) - 1:=IntWalk.i64_in _ (by omega)
       have hw2:0≤(n14:Int) - 1:=by omega
       have hw3:(n14:Int) - 1 < (n14:Int):=by omega
       have hw4:((n14:Int) - 1).toNat=n14 - 1:=by omega
       have Hn14:=Lib.hid hn14;have Hvp14:=Lib.hid hvp14;have Hd8:=Lib.hid hd8
       clear hn14 hvp14 hd8
       by_cases hbad:t8 < D
       · have hbd:decide (t8 < D)=true:=decide_eq_true hbad
         go_wp2_with fail
         go_quiet (fail)
         have L15:=L14.step (L14.lex.drewN nq) (Stp.drewN x wr nq)
         clear hw1 hw2 hw3 hw4 bxc c3 hcell14 L14
         generalize wr.drewN nq=W15 at L15 ⊢
         have hres:lineL s.data.toList i (t :: r)= .error j:=by
          unfold lineL
          rw [← Hbd.out,← Hj.out,if_neg (by simp [hE]),← HD.out,← Hd8.out]
          exact if_pos (show (t8 :: r8).headD 0 < D from hbad)
         have Hres:=Lib.hid hres;clear hres
         go_wp2_with fail
         refine ⟨rfl,?_⟩
         rw [Hres.out]
         exact ⟨rfl,L15.stp⟩
       · have hbd:decide (t8 < D)=false:=decide_eq_false hbad
         go_wp2_with fail
         go_quiet (fail)
         have L15:=L14.step (L14.lex.drewN nq) (Stp.drewN x wr nq)
         clear hw1 hw2 hw3 hw4 bxc c3 hcell14 L14
         generalize wr.drewN nq=W15 at L15 ⊢
         have hres:lineL s.data.toList i (t :: r)=match toksT s.data.toList j with
          | .error e=> .error e
          | .ok (ts,k)=> .ok (ts8 ++ ts ++ [⟨kNewline,[],k⟩],k+1,t8 :: r8):=by
          unfold lineL
          rw [← Hbd.out,← Hj.out,if_neg (by simp [hE]),← HD.out,← Hd8.out]
          rw [if_neg (show ¬ (t8 :: r8).headD 0 < D from hbad),toksL_fuel (s.data.toList.length+1) (s.data.toList.length+1 - j) s.data.toList j (by simp;omega) (by omega) (by simp;omega)]
          rfl
         have Hres:=Lib.hid hres;clear hres
         go_wp2_with fail
         go_loopw [119] (fun _ W=>∃ (k:Nat) (vo':Value) (ts':List Tok),j≤k∧k≤s.size∧ts'.length≤k - j∧LineSt w W x bx be s k vo' vp8 (ts ++ ts8 ++ ts') (t8 :: r8).reverse∧TokRel s.data.toList j k ts') (fun _ W=>s.size - placeLen W x)
         case atStart=>exact ⟨j,_,[],by omega,hj2,by simp,by rw [List.append_nil];exact L15,TokRel.start _ _⟩
         case round=>
          obtain ⟨k,vo16,ts16,hjk,hks,hlen16,L16,hrel⟩:=hrel
          have Hrel:=Lib.hid hrel;clear hrel
          have bec:=L16.bec
          have bxc:=L16.bxc
          go_wp2_with fail
          refine (end_any L16.lex hks bxc).mono ?_
          rintro e W17 ⟨rfl,n17,rfl⟩
          have L17:=L16.step (L16.lex.drewN n17) (Stp.drewN x wr n17)
          have hpl:placeLen wr x=k:=L16.lex.placeLen
          have Hpl:=Lib.hid hpl
          clear L16 bec bxc hpl
          generalize wr.drewN n17=W17 at L17 ⊢
          have hg17:Glob (x - 1) W17:=hg.stp h L17.stp
          rcases hE2:endB s.data.toList k with _ | _
          · have hkl:k < s.size:=by simpa using endB_lt hE2
            have bxc:=L17.bxc
            rcases htk:tokL (s.data.toList.drop k) with _ | ⟨kd,tx,n18⟩
            · have hbad:=Hrel.out.bad (by simpa using hks) hE2 htk
              have Hbad:=Lib.hid hbad;clear hbad
              go_wp2_with fail
              refine (token_no L17.lex hg17 hs hkl htk).mono ?_
              rintro e W18 ⟨rfl,k18⟩
              go_wp2_with fail
              refine ⟨rfl,?_⟩
              rw [Hres.out,Hbad.out]
              exact ⟨rfl,L17.stp.trans k18⟩
            · have hrel2:=Hrel.out.next (by simpa using hks) hE2 htk
              have Hrel2:=Lib.hid hrel2;clear hrel2
              have hn18:=tokL_pos htk
              simp only [List.length_drop,Array.length_toList] at hn18
              have hn18b:k+n18≤s.size:=by have:=hn18.2;simp at this;omega
              have hn18a:=hn18.1
              clear hn18
              go_wp2_with fail
              refine (token_yes L17.lex hg17 hs hkl (by simp at hlen8 hts ⊢;unfold maxToks;omega) _ _ _ htk).mono ?_
              rintro e W18 ⟨rfl,⟨vo18,l18⟩,k18⟩
              have L18:=L17.step l18 k18
              clear L17 l18 k18 bxc hg17
              have hsp:=spanL_le blankB s.data.toList (k+n18) (by simp;omega)
              obtain ⟨k19,hk19⟩:∃ k19,k19=spanL blankB s.data.toList (k+n18):=⟨_,rfl⟩
              rw [← hk19] at hsp
              have hsp1:=hsp.1
              have hsp2:k19≤s.size:=by have:=hsp.2;simpa using this
              have Hk19:=Lib.hid hk19;clear hk19 hsp
              obtain ⟨k17,hk17⟩:∃ k17,k17=k+n18:=⟨_,rfl⟩
              rw [← hk17] at L18
              rw [← hk17] at hsp1
              have Hk17:=Lib.hid hk17
              have hk17s:k17≤s.size:=by omega
              have hk17k:k < k17:=by omega
              clear hk17
              go_wp2_with fail
              refine region_still_tail 10 (by kernel_rfl) (by kernel_rfl) (fun W19 hw19=> ?_)
              have L19:LineSt w W19 x bx be s k17 vo18 vp8 (ts ++ ts8 ++ ts16 ++ [⟨kd,tx,k⟩]) (t8 :: r8).reverse:=L18.step (by rw [hw19];exact L18.lex.drewN 1) (by rw [hw19];exact Stp.drewN _ _ _)
              clear hw19 L18
              have bxc:=L19.bxc
              have c0:=L19.lex.c0
              have c1:=L19.lex.c1
              have f1:=L19.lex.f 1
              simp only [List.take_succ_cons,List.take_zero,List.drop_succ_cons,List.drop_zero]
              repeat still_step
              still_call ((span_any _ _ blank_fn' x s k17 _ hs hk17s c0).mono fun _ _ ⟨h1,h2⟩=>⟨h1,h2.symm⟩)
              rw [Hk17.out,← Hk19.out]
              repeat still_step
              refine wpStill_nil ?_
              go_wp2_with fail
              obtain ⟨q20,kq20⟩:=L19.lex.setAt k19
              have L20:=L19.step q20 kq20
              clear L19 q20 kq20 bxc c0 c1 f1
              generalize W19.setCell ⟨x,1,none⟩ (.int .i64 (k19:Int))=W20 at L20 ⊢
              refine (comment_any L20.lex hs hsp2 L20.bxc L20.bec).mono ?_
              rintro e W21 ⟨rfl,l21,k21⟩
              have L21:=L20.step l21 k21
              clear L20 l21 k21
              go_wp2_with fail
              go_roundw
              case rel=>
               have hc:=commentL_le s.data.toList k19 (by simpa using hsp2)
               refine ⟨commentL s.data.toList k19,vo18,ts16 ++ [⟨kd,tx,k⟩],by omega,by have:=hc.2;simpa using this,by simp;omega,by rw [← List.append_assoc];exact L21,?_⟩
               rw [Hk19.out];exact Hrel2.out
              case measure=>
               have hc:=commentL_le s.data.toList k19 (by simpa using hsp2)
               rw [L21.lex.placeLen,Hpl.out];omega
          · have hst2:=Hrel.out.stop (by simpa using hks) hE2
            have Hst2:=Lib.hid hst2;clear hst2
            have bxc:=L17.bxc
            go_wp2_with fail
            refine region_still_tail 5 (by kernel_rfl) (by kernel_rfl) (fun W19 hw19=> ?_)
            have L19:LineSt w W19 x bx be s k vo16 vp8 (ts ++ ts8 ++ ts16) (t8 :: r8).reverse:=L17.step (by rw [hw19];exact L17.lex.drewN 1) (by rw [hw19];exact Stp.drewN _ _ _)
            clear hw19 L17 bxc hg17
            have bxc:=L19.bxc
            have c1:=L19.lex.c1
            simp only [List.take_succ_cons,List.take_zero,List.drop_succ_cons,List.drop_zero]
            repeat still_step
            refine wpStill_nil ?_
            go_wp2_with fail
            refine (put_any L19.lex _ _ _ (by simp at hlen8 hts ⊢;unfold maxToks;omega)).mono ?_
            rintro e W20 ⟨rfl,⟨vo20,l20⟩,k20⟩
            have L20:=L19.step l20 k20
            clear L19 l20 k20 bxc c1
            have bxc:=L20.bxc
            have c1:=L20.lex.c1
            have f1:=L20.lex.f 1
            go_wp2_with fail
            go_end0
            rw [Hres.out,Hst2.out]
            obtain ⟨q21,kq21⟩:=L20.lex.setAt (k+1)
            rw [show ((k+1:Nat):Int)=(k:Int)+1 from by omega] at q21 kq21
            refine ⟨rfl,⟨vo20,vp8,?_⟩,L20.stp.trans kq21⟩
            have e:ts ++ (ts8 ++ ts16 ++ [⟨kNewline,[],k⟩])=ts ++ ts8 ++ ts16 ++ [⟨kNewline,[],k⟩]:=by simp
            rw [e];exact q21
 · have c1:=L5.lex.c1
   have bxc:=L5.bxc
   have f1:=L5.lex.f 1
   have hres:lineL s.data.toList i st= .ok ([],j+1,st):=by
    unfold lineL;rw [← Hbd.out,← Hj.out,if_pos hE]
   have Hres:=Lib.hid hres;clear hres
   go_wp2_with fail
   refine bodyPost_ret (results_none rfl _ _ _) rfl ?_
   rw [Hres.out]
   have h6:=L5.lex.setAt (j+1)
   rw [show ((j+1:Nat):Int)=(j:Int)+1 from by omega] at h6
   exact ⟨rfl,⟨vo,vp,by rw [List.append_nil];exact h6.1⟩,L5.stp.trans h6.2⟩
end Go.Proofs.YtdoaeapahgmfoaaGreatDoor
namespace Go.Proofs.YtdoaeapahgmfoaaGreatDoor
open Go.RowKit
theorem assert_place (n:Int) (w:World):(Instr.typeAssert (.iface 105 (.int .i64 n)) 20 105 true).run Tryz.prog w= .ok (.tuple #[.int .i64 n,.bool true]) w:=by kernel_rfl
theorem assert_none (w:World):(Instr.typeAssert .nilIface 20 105 true).run Tryz.prog w= .ok (.tuple #[.int .i64 0,.bool false]) w:=by kernel_rfl
set_option maxRecDepth 100000 in
set_option maxHeartbeats 1000000 in
theorem catch_place (bl be:Nat) (n:Int) (ol oe:Value) (te:TypeId) (pv:Value) (older:List PanicEntry) (w:World) (_hne:bl≠be)
 (hl:w.cell? ⟨bl,0,none⟩=some ol) (he:w.cell? ⟨be,0,none⟩=some oe) (fl:w.frozen? ⟨bl,0,none⟩=false) (fe:w.frozen? ⟨be,0,none⟩=false)
 (hv:w.cell? ⟨2,0,none⟩=some (.iface te pv)):
 CallsD Tryz.prog 44 #[.pointer (some ⟨bl,0,none⟩),.pointer (some ⟨be,0,none⟩)] (.panicking ({ v:= .iface 105 (.int .i64 n),recovered:=false } :: older)) w fun e u' w'=>
  e= .returned (.tuple #[])∧u'= .panicking ({ v:= .iface 105 (.int .i64 n),recovered:=true } :: older)∧
  w'=((w.alloc (.cells #[.int .i64 n,.iface te pv] 109)).setCell ⟨bl,0,none⟩ (.slice none 0 0)).setCell ⟨be,0,none⟩ (.iface 107 (.pointer (some ⟨w.heap.size,0,none⟩))):=by
 refine callsD_of_wpS Tryz.func44 rfl fun c₀ cs hu=> ?_
 apply wpS_seq
 apply wpS_region
 simp [wpOpsS,go_sem,recoverD,hu,Tryz.ntmps44,Exit.thenS,assert_place]
 apply wpS_seq
 apply wpS_region
 simp [wpOpsS,go_sem,Exit.thenS]
 refine wpS_cond (t:=true) (by simp [Act.eval,Array.replicate]) ?_
 simp only [if_true]
 have hlb:bl < w.heap.size:=World.block_lt_of_cell? w _ hl
 have heb:be < w.heap.size:=World.block_lt_of_cell? w _ he
 apply wpS_region
 simp [wpOpsS,go_sem,hl,he,fl,fe,hv,hlb,heb,bodyPostS,results,Tryz.results44]
set_option maxRecDepth 100000 in
set_option maxHeartbeats 1000000 in
theorem catch_idle (bl be:Nat) (w:World):
 CallsD Tryz.prog 44 #[.pointer (some ⟨bl,0,none⟩),.pointer (some ⟨be,0,none⟩)] .returning w fun e u' w'=>e= .returned (.tuple #[])∧u'= .returning∧w'=w:=by
 refine callsD_of_wpS Tryz.func44 rfl fun c₀ cs hu=> ?_
 apply wpS_seq
 apply wpS_region
 simp [wpOpsS,go_sem,recoverD,hu,Tryz.ntmps44,Exit.thenS,assert_none]
 apply wpS_seq
 apply wpS_region
 simp [wpOpsS,go_sem,Exit.thenS]
 refine wpS_cond (t:=false) (by simp [Act.eval,Array.replicate]) ?_
 simp only [Bool.false_eq_true,if_false]
 refine wpS_of_wp (wp_skip ?_)
 cases c₀
 simp_all [bodyPostS,results,Tryz.results44]
structure GlobE (B:Nat) (w:World):Prop extends Glob B w where
 text:∃ te pe,w.cell? ⟨2,0,none⟩=some (.iface te pe)
 bound:∃ te pe,w.cell? ⟨1,0,none⟩=some (.iface te pe)
theorem GlobE.below {B:Nat} {w w':World} (h:GlobE B w) (hb:Below B w w'):GlobE B w':=by
 have hB:=h.hB
 refine ⟨h.toGlob.below hb,?_,?_⟩
 · obtain ⟨te,pe,h1⟩:=h.text
   exact ⟨te,pe,(hb.cell (p:=⟨2,0,none⟩) (by show 2 < B;omega)).trans h1⟩
 · obtain ⟨te,pe,h1⟩:=h.bound
   exact ⟨te,pe,(hb.cell (p:=⟨1,0,none⟩) (by show 1 < B;omega)).trans h1⟩
end Go.Proofs.YtdoaeapahgmfoaaGreatDoor

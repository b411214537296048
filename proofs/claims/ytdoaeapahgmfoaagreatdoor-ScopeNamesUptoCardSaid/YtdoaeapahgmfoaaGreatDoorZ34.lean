/- finder.term: a name; the whole. finder.term, whole; the cells of a frame; finder.owner. scope.lambdas: the walk. -/
import Derived.Test.YtdoaeapahgmfoaaGreatDoorZ33
namespace Go.Proofs.YtdoaeapahgmfoaaGreatDoor
open Go.RowKit
def usedF (d:Fd) (i:Nat) (s:List UInt8):Fd:=d.set i (fun x=> { x with used:=addL x.used s })
theorem used_len (d:Fd) (i:Nat) (s:List UInt8):(usedF d i s).fr.length=d.fr.length:=by simp [usedF,Fd.set]
set_option maxRecDepth 100000 in
set_option maxHeartbeats 20000000 in
theorem fterm_name {f:Nat} (hf:FTermC f) (e:Ex) (i:Nat) (w:World) (x B m N:Nat) (c:Clr) (d:Fd) (vl vb vp vz:Value) (ys:List Nat) (vss:Nat→Nat→Value) (hnd:e.nodes≤f+1) (h:FdC w x c B d m vl vb ys vss) (hm:m=d.fr.length) (hi:i < m) (hN:Sm d N) (hN2:N+8 * e.bulk≤16000000) (hB:B≤w.heap.size)
 (hp:StrsAt w (Un w c) vp e.p) (hx:ExsAt w (Un w c) vz e.l) (h2:e.op=oName):
 Calls Tryz.prog 111 #[.pointer (some ⟨x,0,none⟩),.int .i64 (i:Int),.agg #[.string (toBA e.op),.int .i64 e.n,.string (toBA e.s),vp,vz]] w (FdPost w x B c (termF (f+1) e i d) (.tuple #[])):=by
 subst hm
 obtain ⟨ap,cp,rfl,hpcap,hpr⟩:=id hp
 obtain ⟨al,cl,rfl,hlcap,hlr⟩:=id hx
 have hbA:=(Below.refl w.heap.size w).alloc (Nat.le_refl _) (.cells #[.string (toBA e.op),.int .i64 e.n,.string (toBA e.s),.slice ap e.p.length cp,.slice al e.l.length cl] 140)
 obtain ⟨hFA,sA⟩:=h.grow hbA
 have hne:=Ex.nodes_l e
 have hbe:=Ex.bulk_eq e
 have hblk:=heap_alloc_new w (.cells #[.string (toBA e.op),.int .i64 e.n,.string (toBA e.s),.slice ap e.p.length cp,.slice al e.l.length cl] 140)
 have hbU:Un (w.alloc (.cells #[.string (toBA e.op),.int .i64 e.n,.string (toBA e.s),.slice ap e.p.length cp,.slice al e.l.length cl] 140)) c w.heap.size:=⟨by simp,h.fresh (Nat.le_refl _)⟩
 have hel:e.l.length≤exsBulk e.l:=exsBulk_len e.l
 have hT:termF (f+1) e i d=e.l.foldl (fun a e=>termF f e i a) (usedF d i e.s):=by
  show (if e.op=oLambda then _ else _)=_
  rw [if_neg (by rw [h2];decide),if_pos h2]
  rfl
 have u1:((toBA e.op).toList == [110,97,109,101])=true:=by rw [m_toList];simp [h2,oName]
 have u2:=m_ne (a:=e.op) (b:= [108,97,109,98,100,97]) (by rw [h2];decide)
 obtain ⟨g,cap,nm,Y,hY,rfl,hcap,cg,hYb⟩:=hFA.look hi
 have hF:=hFA.frs i hi
 have c0:=cell_of_blk (o:=0) hblk
 have c2:=cell_of_blk (o:=2) hblk
 have x0:=cell_of_blk (o:=0) hFA.blk
 have hxl:=hFA.x_lt
 have y7:(w.alloc (.cells #[.string (toBA e.op),.int .i64 e.n,.string (toBA e.s),.slice ap e.p.length cp,.slice al e.l.length cl] 140)).cell? ⟨Y,7,none⟩=some (vss i 1):=by rw [cell_of_blk hYb];rfl
 have r1:=hN.row i 1
 have hNf:=hN.fr
 have hcY:=hF.cy
 rw [← hY] at hcY
 have nx:x≠Y:=fun e=>by have:=hFA.cx;rw [e,hcY] at this;cases this
 have ng:g≠Y:=fun e=>by have:=hFA.lc g rfl;rw [e,hcY] at this;cases this
 have nb:w.heap.size≠Y:=fun e=>by have:=hbU.2;rw [e,hcY] at this;cases this
 have i0:(0:Int)≤(i:Int):=Int.natCast_nonneg _
 have i1:(i:Int) < (d.fr.length:Int):=by omega
 have hfar:∀ w1,(w.alloc (.cells #[.string (toBA e.op),.int .i64 e.n,.string (toBA e.s),.slice ap e.p.length cp,.slice al e.l.length cl] 140)).grownBy w1 (vss i 1).ownBlock→w1.heap[Y]? =(w.alloc (.cells #[.string (toBA e.op),.int .i64 e.n,.string (toBA e.s),.slice ap e.p.length cp,.slice al e.l.length cl] 140)).heap[Y]? :=fun w1 hg=>hFA.y_far hY hi (row:=(vss i 1).ownBlock) (fun b e=>⟨_,hF.cr 1 (by decide) b e,by simp⟩) hg
 have hlg:=hFA.lc g rfl
 have hsu:Sm (usedF d i e.s) (N+1):=hN.setRow i _ (fun x k=>by
  match k with
  | 0=>exact Nat.le_succ _
  | 1=>exact addL_len _ _
  | 2=>exact Nat.le_succ _
  | _+3=>exact Nat.le_succ _) fun _=>rfl
 obtain ⟨N0,hN0,hNb⟩:∃ N0,Sm (usedF d i e.s) N0∧N0+8 * exsBulk e.l≤16000000:=⟨_,hsu,by omega⟩
 have HN0:=Lib.hid hN0;have HI0:=Lib.hid (show i < (usedF d i e.s).fr.length by rw [used_len];exact hi)
 clear hsu hN0
 have hsz:=sA.size
 have HFA:=Lib.hid hFA;have HA:=Lib.hid sA;have HbU:=Lib.hid hbU;have Hblk:=Lib.hid hblk;have HF:=Lib.hid hF;have Hfar:=Lib.hid hfar;have HY:=Lib.hid hY;have HYb:=Lib.hid hYb
 have HN:=Lib.hid hN;have Hrow:=Lib.hid hlr;have Hf:=Lib.hid hf;have Hnd:=Lib.hid (show exsNodes e.l≤f by omega);have HT:=Lib.hid hT;have Hlg:=Lib.hid hlg;have Hi:=Lib.hid hi;have Hcg:=Lib.hid cg;have Hx0:=Lib.hid x0;have Hc2:=Lib.hid c2
 clear hFA sA hN hlr hf hT hpr hblk hbU hbA h hp hx h2 hi hF hfar hY hYb hcY hlg
 go_enter Tryz.func111,Tryz.ntmps111
 go_upto_region 2 with fail
 generalize w.alloc (.cells #[.string (toBA e.op),.int .i64 e.n,.string (toBA e.s),.slice ap e.p.length cp,.slice al e.l.length cl] 140)=wA at *
 have hadd:=add_any (w:=wA.drew) (by have:=HF.out.own 1 (by decide);exact this) e.s (by omega) (by show B≤wA.heap.size;omega)
 have hkeep:∀ w1,wA.grownBy w1 (vss i 1).ownBlock→∀ k,k < wA.heap.size→c k≠some (.row i 1)→∀ o,w1.cell? ⟨k,o,none⟩=wA.cell? ⟨k,o,none⟩:=fun w1 hg k hk hn o=>World.cell?_of_block (hg.block k hk fun e=>hn (HF.out.cr 1 (by decide) k e.symm))
 have Hadd:=Lib.hid hadd;have Hkeep:=Lib.hid hkeep
 have hgl:g < wA.heap.size:=(HFA.out.lo g _ Hlg.out).2
 clear hadd hkeep
 have hset:∀ (W:World) (u:Value) (b o:Nat),b≠Y→(W.setCell ⟨Y,7,none⟩ u).cell? ⟨b,o,none⟩=W.cell? ⟨b,o,none⟩:=fun W u b o hb=>World.cell?_of_block (Below.heap_setCell W ⟨Y,7,none⟩ u b hb)
 go_cut [] (fun W=>∃ c1 vss1,FdC W x c1 B (usedF d i e.s) (usedF d i e.s).fr.length (.slice (some ⟨g,0,none⟩) d.fr.length cap) vb ys vss1∧FStp c c1 wA W)
 case first=>
  have hS0:(fun w':World=>w'.cell? ⟨x,0,none⟩=some (.slice (some ⟨g,0,none⟩) d.fr.length cap)∧w'.cell? ⟨g,i,none⟩=some (.pointer (some ⟨Y,0,none⟩))∧w'.cell? ⟨w.heap.size,2,none⟩=some (.string (toBA e.s))∧w'.cell? ⟨Y,7,none⟩=some (vss i 1)) wA.drew:=⟨Hx0.out,Hcg.out,Hc2.out,y7⟩
  refine wp_region_rest (z:=22) (S:=fun w':World=>w'.cell? ⟨x,0,none⟩=some (.slice (some ⟨g,0,none⟩) d.fr.length cap)∧w'.cell? ⟨g,i,none⟩=some (.pointer (some ⟨Y,0,none⟩))∧w'.cell? ⟨w.heap.size,2,none⟩=some (.string (toBA e.s))∧w'.cell? ⟨Y,7,none⟩=some (vss i 1)) (by rfl) ?_
  change wpAnyR _ _ _ _ _ _ _ _ _ wA.drew
  refine wpAnyR_take (i:=0) [1,2,3,5,6,20,21,22] (v:= ?_) rfl (by kernel_rfl) (by kernel_rfl) (by kernel_rfl) (by kernel_rfl) (fun _ _ _ h=>h) (Or.inl ⟨by rfl,?_⟩) (by assumption) ?_
  rotate_left
  · intro w hSw
    (try dsimp only at hSw)
    go_simp
    first | done | with_reducible rfl
  try simp only [Act.put,List.setIfInBounds_toArray]
  refine wpAnyR_take (i:=1) [2,3,5,6,20,21,22] (v:= ?_) rfl (by kernel_rfl) (by kernel_rfl) (by kernel_rfl) (by kernel_rfl) (fun _ _ _ h=>h) (Or.inl ⟨by rfl,?_⟩) (by assumption) ?_
  rotate_left
  · intro w hSw
    (try dsimp only at hSw)
    go_simp
    first | done | with_reducible rfl
  try simp only [Act.put]
  refine wpAnyR_take (i:=2) [3,5,6,20,21,22] (v:= ?_) rfl (by kernel_rfl) (by kernel_rfl) (by kernel_rfl) (by kernel_rfl) (fun _ _ _ h=>h) (Or.inl ⟨by rfl,?_⟩) (by assumption) ?_
  rotate_left
  · intro w hSw
    (try dsimp only at hSw)
    go_simp
    first | done | with_reducible rfl
  try simp only [Act.put]
  refine wpAnyR_take (i:=3) [5,6,20,21,22] (v:= ?_) rfl (by kernel_rfl) (by kernel_rfl) (by kernel_rfl) (by kernel_rfl) (fun _ _ _ h=>h) (Or.inl ⟨by rfl,?_⟩) (by assumption) ?_
  rotate_left
  · intro w hSw
    (try dsimp only at hSw)
    go_simp
    first | done | with_reducible rfl
  try simp only [Act.put]
  refine wpAnyR_take (i:=4) [5,6,20,21,22] (v:= ?_) rfl (by kernel_rfl) (by kernel_rfl) (by kernel_rfl) (by kernel_rfl) (fun _ _ _ h=>h) (Or.inl ⟨by rfl,?_⟩) (by assumption) ?_
  rotate_left
  · intro w hSw
    (try dsimp only at hSw)
    go_simp
    first | done | with_reducible rfl
  try simp only [Act.put]
  refine wpAnyR_take (i:=5) [6,20,21,22] (v:= ?_) rfl (by kernel_rfl) (by kernel_rfl) (by kernel_rfl) (by kernel_rfl) (fun _ _ _ h=>h) (Or.inl ⟨by rfl,?_⟩) (by assumption) ?_
  rotate_left
  · intro w hSw
    (try dsimp only at hSw)
    go_simp
    first | done | with_reducible rfl
  try simp only [Act.put]
  refine wpAnyR_take (i:=6) [20,21,22] (v:= ?_) rfl (by kernel_rfl) (by kernel_rfl) (by kernel_rfl) (by kernel_rfl) (fun _ _ _ h=>h) (Or.inl ⟨by rfl,?_⟩) (by assumption) ?_
  rotate_left
  · intro w hSw
    (try dsimp only at hSw)
    go_simp
    first | done | with_reducible rfl
  try simp only [Act.put]
  refine wpAnyR_take (i:=7) [8,9,10,12,13,14,15,16,19,22] (v:= ?_) rfl (by kernel_rfl) (by kernel_rfl) (by kernel_rfl) (by kernel_rfl) (fun _ _ _ h=>h) (Or.inl ⟨by rfl,?_⟩) (by assumption) ?_
  rotate_left
  · intro w hSw
    (try dsimp only at hSw)
    go_simp
    first | done | with_reducible rfl
  try simp only [Act.put]
  refine wpAnyR_take (i:=8) [9,10,12,13,14,15,16,19,22] (v:= ?_) rfl (by kernel_rfl) (by kernel_rfl) (by kernel_rfl) (by kernel_rfl) (fun _ _ _ h=>h) (Or.inl ⟨by rfl,?_⟩) (by assumption) ?_
  rotate_left
  · intro w hSw
    (try dsimp only at hSw)
    go_simp
    first | done | with_reducible rfl
  try simp only [Act.put]
  refine wpAnyR_take (i:=9) [10,12,13,14,15,16,19,22] (v:= ?_) rfl (by kernel_rfl) (by kernel_rfl) (by kernel_rfl) (by kernel_rfl) (fun _ _ _ h=>h) (Or.inl ⟨by rfl,?_⟩) (by assumption) ?_
  rotate_left
  · intro w hSw
    (try dsimp only at hSw)
    go_simp
    first | done | with_reducible rfl
  try simp only [Act.put]
  refine wpAnyR_take (i:=10) [12,13,14,15,16,19,22] (v:= ?_) rfl (by kernel_rfl) (by kernel_rfl) (by kernel_rfl) (by kernel_rfl) (fun _ _ _ h=>h) (Or.inl ⟨by rfl,?_⟩) (by assumption) ?_
  rotate_left
  · intro w hSw
    (try dsimp only at hSw)
    go_simp
    first | done | with_reducible rfl
  try simp only [Act.put]
  refine wpAnyR_take (i:=11) [12,13,14,15,16,19,22] (v:= ?_) rfl (by kernel_rfl) (by kernel_rfl) (by kernel_rfl) (by kernel_rfl) (fun _ _ _ h=>h) (Or.inl ⟨by rfl,?_⟩) (by assumption) ?_
  rotate_left
  · intro w hSw
    (try dsimp only at hSw)
    go_simp
    first | done | with_reducible rfl
  try simp only [Act.put]
  refine wpAnyR_take (i:=12) [13,14,15,16,19,22] (v:= ?_) rfl (by kernel_rfl) (by kernel_rfl) (by kernel_rfl) (by kernel_rfl) (fun _ _ _ h=>h) (Or.inl ⟨by rfl,?_⟩) (by assumption) ?_
  rotate_left
  · intro w hSw
    (try dsimp only at hSw)
    go_simp
    first | done | with_reducible rfl
  try simp only [Act.put]
  refine wpAnyR_take (i:=13) [14,15,16,19,22] (v:= ?_) rfl (by kernel_rfl) (by kernel_rfl) (by kernel_rfl) (by kernel_rfl) (fun _ _ _ h=>h) (Or.inl ⟨by rfl,?_⟩) (by assumption) ?_
  rotate_left
  · intro w hSw
    (try dsimp only at hSw)
    go_simp
    first | done | with_reducible rfl
  try simp only [Act.put]
  refine wpAnyR_take (i:=14) [15,16,19,22] (v:= ?_) rfl (by kernel_rfl) (by kernel_rfl) (by kernel_rfl) (by kernel_rfl) (fun _ _ _ h=>h) (Or.inl ⟨by rfl,?_⟩) (by assumption) ?_
  rotate_left
  · intro w hSw
    (try dsimp only at hSw)
    go_simp
    first | done | with_reducible rfl
  try simp only [Act.put]
  refine wpAnyR_take (i:=15) [16,19,22] (v:= ?_) rfl (by kernel_rfl) (by kernel_rfl) (by kernel_rfl) (by kernel_rfl) (fun _ _ _ h=>h) (Or.inl ⟨by rfl,?_⟩) (by assumption) ?_
  rotate_left
  · intro w hSw
    (try dsimp only at hSw)
    go_simp
    first | done | with_reducible rfl
  try simp only [Act.put]
  refine wpAnyR_take (i:=16) [19,22] (v:= ?_) rfl (by kernel_rfl) (by kernel_rfl) (by kernel_rfl) (by kernel_rfl) (fun _ _ _ h=>h) (Or.inl ⟨by rfl,?_⟩) (by assumption) ?_
  rotate_left
  · intro w hSw
    (try dsimp only at hSw)
    go_simp
    first | done | with_reducible rfl
  try simp only [Act.put]
  refine wpAnyR_take (i:=17) [18,19,22] (v:= ?_) rfl (by kernel_rfl) (by kernel_rfl) (by kernel_rfl) (by kernel_rfl) (fun _ _ _ h=>h) (Or.inl ⟨by rfl,?_⟩) (by assumption) ?_
  rotate_left
  · intro w hSw
    (try dsimp only at hSw)
    go_simp
    first | done | with_reducible rfl
  try simp only [Act.put]
  refine wpAnyR_take (i:=18) [19,22] (v:= ?_) rfl (by kernel_rfl) (by kernel_rfl) (by kernel_rfl) (by kernel_rfl) (fun _ _ _ h=>h) (Or.inl ⟨by rfl,?_⟩) (by assumption) ?_
  rotate_left
  · intro w hSw
    (try dsimp only at hSw)
    go_simp
    first | done | with_reducible rfl
  try simp only [Act.put]
  refine wpAnyR_one (i:=19) (by kernel_rfl) rfl (fun K hK=> ?_)
  go_simp
  go_wp2_with (go_at_call 40;(with_reducible refine Hadd.out.mono ?_);rintro _ w1 ⟨ao,cq,rfl,hown,hgr,hat⟩)
  have hgr:=grown_drew hgr
  have Hs:=Lib.hid (HFA.out.setRow i 1 HY.out Hi.out (by decide) _ (fun x=> { x with used:=addL x.used e.s }) hgr hown hat ⟨rfl,rfl,rfl⟩ (fun j hj hne=>match j,hj with
   | 0,_=>rfl
   | 1,_=>absurd rfl hne
   | 2,_=>rfl
   | 3,_=>rfl))
  have hb1:=(Hfar.out w1 hgr).trans HYb.out
  have z7:w1.cell? ⟨Y,7,none⟩=some (vss i 1):=by rw [cell_of_blk hb1];rfl
  have f7:=frozen_of_blk (o:=7) hb1
  have zl:=lt_of_blk hb1
  have hS1:(fun w':World=>w'.cell? ⟨x,0,none⟩=some (.slice (some ⟨g,0,none⟩) d.fr.length cap)∧w'.cell? ⟨g,i,none⟩=some (.pointer (some ⟨Y,0,none⟩))∧w'.cell? ⟨w.heap.size,2,none⟩=some (.string (toBA e.s))∧w'.cell? ⟨Y,7,none⟩=some (vss i 1)) w1:=⟨(Hkeep.out w1 hgr x hxl (by have:=HFA.out.cx;rw [this];simp) 0).trans Hx0.out,(Hkeep.out w1 hgr g hgl (by rw [Hlg.out];simp) i).trans Hcg.out,(Hkeep.out w1 hgr _ HbU.out.1 (by rw [HbU.out.2];simp) 2).trans Hc2.out,z7⟩
  clear hgr hown hat hb1
  refine hK.out _ _ (fun _=>hS1) ?_
  clear hK K
  refine wpAnyR_take (i:=20) [21,22] (v:= ?_) rfl (by kernel_rfl) (by kernel_rfl) (by kernel_rfl) (by kernel_rfl) (fun _ _ _ h=>h) (Or.inl ⟨by rfl,?_⟩) (by assumption) ?_
  rotate_left
  · intro w hSw
    (try dsimp only at hSw)
    go_simp
    first | done | with_reducible rfl
  try simp only [Act.put,List.setIfInBounds_toArray]
  refine wpAnyR_take (i:=21) [22] (v:= ?_) rfl (by kernel_rfl) (by kernel_rfl) (by kernel_rfl) (by kernel_rfl) (fun _ _ _ h=>h) (Or.inl ⟨by rfl,?_⟩) (by assumption) ?_
  rotate_left
  · intro w hSw
    (try dsimp only at hSw)
    go_simp
    first | done | with_reducible rfl
  try simp only [Act.put]
  refine wpAnyR_one (i:=22) (by kernel_rfl) rfl (fun K hK=> ?_)
  go_simp
  refine hK.out _ _ (fun h=>absurd h (by decide)) ?_
  refine wpAnyR_done (by kernel_rfl) ?_ _
  go_wp2_with fail
  go_meet
  case rel=>exact ⟨_,_,by rw [used_len];exact Hs.out.1,Hs.out.2⟩
 case rest=>
  obtain ⟨cS,vssS,hF,sS⟩:=hcut
  have c0:=(sS.cell (o:=0) HbU.out).trans (cell_of_blk (o:=0) Hblk.out)
  have c4:=(sS.cell (o:=4) HbU.out).trans (cell_of_blk (o:=4) Hblk.out)
  have HF0:=Lib.hid hF;have HS0:=Lib.hid (HA.out.trans sS)
  clear hF sS
  go_wp2_with fail
  skip
  go_loopw [44] (fun t wr=>∃ (j:Nat) (c1:Clr) (vl1 vb1:Value) (ys1:List Nat) (vss1:Nat→Nat→Value),j≤e.l.length∧t= .int .i64 j∧FdC wr x c1 B ((e.l.take j).foldl (fun a e=>termF f e i a) (usedF d i e.s)) ((e.l.take j).foldl (fun a e=>termF f e i a) (usedF d i e.s)).fr.length vl1 vb1 ys1 vss1∧FStp c c1 w wr) (fun t _=>e.l.length - (intOf t).toNat)
  case atStart=>exact ⟨0,_,_,_,_,_,by omega,rfl,HF0.out,HS0.out⟩
  case round=>
   obtain ⟨j,c1,vl1,vb1,ys1,vss1,hj,rfl,hF,sS⟩:=hrel
   by_cases hjl:j < e.l.length
   · have t1:decide ((j:Int) < (e.l.length:Int))=true:=by simp;omega
     obtain ⟨b,o,rfl,hbU,hrow⟩:=Hrow.out (by omega)
     obtain ⟨vp1,vz1,q0,q1,q2,q3,q4,hp1,hx1⟩:=(hrow.at_ _ _ _ j hjl).open_
     have Hp1:=Lib.hid hp1;have Hx1:=Lib.hid hx1
     obtain ⟨ap1,cp1,rfl,_⟩:=hp1
     obtain ⟨al1,cl1,rfl,_⟩:=hx1
     have q0:=(sS.cell hbU).trans q0
     have q1:=(sS.cell hbU).trans q1
     have q2:=(sS.cell hbU).trans q2
     have q3:=(sS.cell hbU).trans q3
     have q4:=(sS.cell hbU).trans q4
     have hbA:=(Below.refl wr.heap.size wr).alloc (Nat.le_refl _) (.cells #[.string (toBA e.l[j].op),.int .i64 e.l[j].n,.string (toBA e.l[j].s),.slice ap1 e.l[j].p.length cp1,.slice al1 e.l[j].l.length cl1] 140)
     obtain ⟨hFA,sA⟩:=hF.grow hbA
     have hsA:=sS.trans sA
     have hm:=exs_mem (List.getElem_mem hjl)
     have hbt:=exsBulk_take e.l j hjl
     have hbl:exsBulk (e.l.take (j+1))≤exsBulk e.l:=exsBulk_le _ _
     have hsm:=sm_terms f i (e.l.take j) N0 (usedF d i e.s) HN0.out
     have hln:=terms_len f i (e.l.take j) (usedF d i e.s) HI0.out
     have hcall:=Hf.out e.l[j] i _ x B _ _ c1 _ vl1 vb1 _ _ ys1 vss1 (by have:=Hnd.out;omega) hFA rfl (Nat.lt_of_lt_of_le HI0.out hln) hsm (by omega) (by have:=hsA.size;omega) (hsA.strs Hp1.out) (hsA.exs Hx1.out)
     rw [← fold_take (fun a e=>termF f e i a) e.l (usedF d i e.s) j hjl] at hcall
     have Hcall:=Lib.hid hcall;have HsA:=Lib.hid hsA
     clear hcall hsA hFA sA hF sS hrow hm hbt hbl hsm hln hbA
     go_wp2_with fail
     refine Hcall.out.mono ?_
     rintro _ w2 ⟨rfl,c2,vl2,vb2,ys2,vss2,hF2,s2⟩
     have HF2:=Lib.hid hF2;have HS2:=Lib.hid (HsA.out.trans s2)
     clear hF2 s2 Hcall q0 q1 q2 q3 q4
     go_wp2_with fail
     go_roundw
     case rel=>exact ⟨j+1,c2,vl2,vb2,ys2,vss2,by omega,by go_num,HF2.out,HS2.out⟩
     case measure=>simp [intOf];omega
   · have t1:decide ((j:Int) < (e.l.length:Int))=false:=by simp;omega
     obtain rfl:j=e.l.length:=by omega
     rw [List.take_of_length_le (Nat.le_refl _)] at hF
     have HFe:=Lib.hid hF;have HSe:=Lib.hid sS
     clear hF sS
     go_wp2_with fail
     go_end0
     refine ⟨rfl,c1,vl1,vb1,ys1,vss1,?_,HSe.out⟩
     rw [HT.out]
     exact HFe.out
end Go.Proofs.YtdoaeapahgmfoaaGreatDoor
namespace Go.Proofs.YtdoaeapahgmfoaaGreatDoor
open Go.RowKit
theorem fterm_all:∀ f,FTermC f
 | 0=>fun e i w x B m N c d vl vb vp vz ys vss hnd=>by have:=Ex.nodes_l e;omega
 | f+1=>fun e i w x B m N c d vl vb vp vz ys vss hnd h hm hi hN hN2 hB hp hx=>by
   by_cases h1:e.op=oLambda
   · exact fterm_lambda (fterm_all f) e i w x B m N c d vl vb vp vz ys vss hnd h hm hi hN hN2 hB hp hx h1
   · by_cases h2:e.op=oName
     · exact fterm_name (fterm_all f) e i w x B m N c d vl vb vp vz ys vss hnd h hm hi hN hN2 hB hp hx h2
     · exact fterm_other (fterm_all f) e i w x B m N c d vl vb vp vz ys vss hnd h hm hi hN hN2 hB hp hx h2 h1
theorem FdC.gcell {w:World} {x B m g cap:Nat} {c:Clr} {d:Fd} {vb:Value} {ys:List Nat} {vss:Nat→Nat→Value} (h:FdC w x c B d m (.slice (some ⟨g,0,none⟩) m cap) vb ys vss) {i:Nat} (hi:i < m):w.cell? ⟨g,i,none⟩=some (.pointer (some ⟨ys.getD i 0,0,none⟩)):=by
 obtain ⟨g',cap',hv,_,_,hc⟩:=h.ptr hi
 injection hv with e1 _ _
 injection e1 with e1
 injection e1 with e1 _ _
 subst e1
 exact hc
theorem FdC.fcell {w:World} {x B m:Nat} {c:Clr} {d:Fd} {vl vb:Value} {ys:List Nat} {vss:Nat→Nat→Value} (h:FdC w x c B d m vl vb ys vss) {i:Nat} (hi:i < m):
 w.cell? ⟨ys.getD i 0,1,none⟩=some (.int .i64 (d.fr.getD i dfr).around)∧w.cell? ⟨ys.getD i 0,6,none⟩=some (vss i 0)∧w.cell? ⟨ys.getD i 0,7,none⟩=some (vss i 1)∧w.cell? ⟨ys.getD i 0,8,none⟩=some (vss i 2)∧
  w.cell? ⟨ys.getD i 0,9,none⟩=some (vss i 3)∧w.cell? ⟨ys.getD i 0,10,none⟩=some (.int .i64 ((d.fr.getD i dfr).loops:Int)):=by
 obtain ⟨nm,hb⟩:=(h.frs i (Nat.lt_of_lt_of_le hi h.hm)).blk
 refine ⟨?_,?_,?_,?_,?_,?_⟩ <;> rw [cell_of_blk hb] <;> rfl
theorem ownerGo_step (f:Nat) (fr:List Fr) (first:Int) (k:Nat) (n:List UInt8) (hk:0 < k):ownerGo (f+1) fr first (k:Int) n=if ((fr.getD k dfr).row 2).contains n then 0 else
 if ((fr.getD k dfr).row 0).contains n && (decide ((k:Int)≠first) || !((fr.getD k dfr).row 3).contains n) then k else ownerGo f fr first (fr.getD k dfr).around n:=by
 conv=>lhs;unfold ownerGo
 rw [if_neg (by omega)]
 simp only [Int.toNat_natCast]
 rfl
theorem ownerGo_stop (f:Nat) (fr:List Fr) (first i:Int) (n:List UInt8) (hi:i≤0):ownerGo f fr first i n=0:=by
 cases f with
 | zero=>rfl
 | succ f=>unfold ownerGo;rw [if_pos hi]
set_option maxRecDepth 100000 in
set_option maxHeartbeats 20000000 in
theorem owner_any {w:World} {x B m:Nat} {c:Clr} {d:Fd} {vl vb:Value} {ys:List Nat} {vss:Nat→Nat→Value} (h:FdC w x c B d m vl vb ys vss) (hm:m=d.fr.length) (ha:Arnd d.fr) (i:Int) (hi0: -1≤i) (hi:i < (m:Int)) (s:List UInt8) {N:Nat} (hN:Sm d N) (hN2:N≤40000000):
 Calls Tryz.prog 39 #[.pointer (some ⟨x,0,none⟩),.int .i64 i,.string (toBA s)] w (fun e w'=>e= .returned (.int .i64 (ownerF d.fr i s:Nat))∧w'=w):=by
 have hm0:0 < m:=by have:=ha.pos;omega
 obtain ⟨g,cap,nm,Y,hY,rfl,hcap,cg,hblk⟩:=h.look hm0
 have c0:=cell_of_blk (o:=0) h.blk
 have hNf:=hN.fr
 have hm2:m≤40000000:=by omega
 obtain ⟨R,hR⟩:∃ R,R=ownerF d.fr i s:=⟨_,rfl⟩
 rw [← hR]
 have hR2:ownerGo (d.fr.length+1) d.fr i i s=R:=hR.symm
 have Hh:=Lib.hid h;have Hm:=Lib.hid hm;have Ha:=Lib.hid ha;have HN:=Lib.hid hN;have HR:=Lib.hid hR2;have Hi:=Lib.hid hi;have Hi0:=Lib.hid hi0
 clear h hm ha hN hR hR2 hY cg hblk hNf hi hi0
 go_enter Tryz.func39,Tryz.ntmps39
 go_wp2_with fail
 go_loopw [1,8] (fun k _ wr=>∃ (j:Int) (f:Nat),wr=w∧k= .int .i64 j∧ -1≤j∧j < (m:Int)∧j < (f:Int)∧ownerGo f d.fr i j s=R) (fun k _ _=>(intOf k).toNat)
 case atStart=>exact ⟨i,d.fr.length+1,rfl,rfl,Hi0.out,Hi.out,by have:=Hi.out;have:=Hm.out;omega,HR.out⟩
 case round=>
  obtain ⟨j,f,rfl,rfl,j0,jm,jf,hgo⟩:=hrel
  by_cases hj:0 < j
  · have t1:decide ((0:Int) < j)=true:=by simp;omega
    obtain ⟨k,rfl⟩:∃ k:Nat,j=(k:Int):=⟨j.toNat,by omega⟩
    obtain ⟨f,rfl⟩:∃ q,f=q+1:=⟨f - 1,by omega⟩
    have hk:k < m:=by omega
    rw [ownerGo_step f d.fr i k s (by omega)] at hgo
    have cg:=Hh.out.gcell hk
    obtain ⟨y1,y6,_,y8,y9,_⟩:=Hh.out.fcell hk
    generalize ys.getD k 0=Y at cg y1 y6 y8 y9
    have hF:=Hh.out.frs k (by have:=Hm.out;omega)
    have q2:=has_any _ (vss k 2) s _ (own_strs (hF.own 2 (by decide))) (by have:=HN.out.row k 2;omega)
    have q3:=has_any _ (vss k 3) s _ (own_strs (hF.own 3 (by decide))) (by have:=HN.out.row k 3;omega)
    have q0:=has_any _ (vss k 0) s _ (own_strs (hF.own 0 (by decide))) (by have:=HN.out.row k 0;omega)
    have harn:=Ha.out.lt k (by omega) (by have:=Hm.out;omega)
    have i1:(0:Int)≤(k:Int):=Int.natCast_nonneg _
    obtain ⟨A,hA⟩:∃ A,A=(d.fr.getD k dfr).around:=⟨_,rfl⟩
    rw [← hA] at y1 harn hgo
    have hk0:0 < k:=by omega
    clear hF hA
    rcases b2:((d.fr.getD k dfr).row 2).contains s with _ | _
    · rw [b2] at q2 hgo
      rw [if_neg (by simp)] at hgo
      rcases b0:((d.fr.getD k dfr).row 0).contains s with _ | _
      · rw [b0] at q0 hgo
        rw [Bool.false_and] at hgo
        have Q2:=Lib.hid q2;have Q0:=Lib.hid q0
        clear q2 q0 q3 b2 b0 y9
        go_wp2_with fail
        refine Q2.out.mono ?_
        rintro _ w2 ⟨rfl,rfl⟩
        go_wp2_with fail
        refine Q0.out.mono ?_
        rintro _ w2 ⟨rfl,rfl⟩
        skip
        rw [if_neg (by simp)] at hgo
        have Hgo:=Lib.hid hgo
        clear hgo
        go_wp2_with fail
        go_roundw
        case rel=>exact ⟨A,f,by simp,by simp,by omega,by omega,by omega,Hgo.out⟩
        case measure=>simp [intOf];omega
      · rw [b0] at q0 hgo
        rw [Bool.true_and] at hgo
        by_cases hji:(k:Int)=i
        · have t2:((k:Int) != i)=false:=by simp [hji]
          have t3:decide ((k:Int)≠i)=false:=by simp [hji]
          rw [t3,Bool.false_or] at hgo
          rcases b3:((d.fr.getD k dfr).row 3).contains s with _ | _
          · rw [b3] at q3 hgo
            rw [if_pos (by rfl)] at hgo
            have Q2:=Lib.hid q2;have Q0:=Lib.hid q0;have Q3:=Lib.hid q3;have Hgo:=Lib.hid hgo;have Hji:=Lib.hid hji
            clear q2 q0 q3 b2 b0 b3 hgo hji
            go_wp2_with fail
            refine Q2.out.mono ?_
            rintro _ w2 ⟨rfl,rfl⟩
            go_wp2_with fail
            refine Q0.out.mono ?_
            rintro _ w2 ⟨rfl,rfl⟩
            go_wp2_with fail
            refine Q3.out.mono ?_
            rintro _ w2 ⟨rfl,rfl⟩
            go_wp2_with fail
            refine bodyPost_ret (results_tmp rfl _ _ _) rfl ?_
            exact ⟨by rw [← Hgo.out];rfl,rfl⟩
          · rw [b3] at q3 hgo
            have Q2:=Lib.hid q2;have Q0:=Lib.hid q0;have Q3:=Lib.hid q3;have Hji:=Lib.hid hji
            clear q2 q0 q3 b2 b0 b3 hji
            go_wp2_with fail
            refine Q2.out.mono ?_
            rintro _ w2 ⟨rfl,rfl⟩
            go_wp2_with fail
            refine Q0.out.mono ?_
            rintro _ w2 ⟨rfl,rfl⟩
            go_wp2_with fail
            refine Q3.out.mono ?_
            rintro _ w2 ⟨rfl,rfl⟩
            skip
            rw [if_neg (by simp)] at hgo
            have Hgo:=Lib.hid hgo
            clear hgo
            go_wp2_with fail
            go_roundw
            case rel=>exact ⟨A,f,by simp,by simp,by omega,by omega,by omega,Hgo.out⟩
            case measure=>simp [intOf];omega
        · have t2:((k:Int) != i)=true:=by simp [hji]
          have t3:decide ((k:Int)≠i)=true:=by simp [hji]
          rw [t3,Bool.true_or,if_pos rfl] at hgo
          have Q2:=Lib.hid q2;have Q0:=Lib.hid q0;have Hgo:=Lib.hid hgo;have Hji:=Lib.hid hji
          clear q2 q0 q3 b2 b0 hgo hji y9
          go_wp2_with fail
          refine Q2.out.mono ?_
          rintro _ w2 ⟨rfl,rfl⟩
          go_wp2_with fail
          refine Q0.out.mono ?_
          rintro _ w2 ⟨rfl,rfl⟩
          go_wp2_with fail
          refine bodyPost_ret (results_tmp rfl _ _ _) rfl ?_
          exact ⟨by rw [← Hgo.out];rfl,rfl⟩
    · rw [b2] at q2 hgo
      rw [if_pos rfl] at hgo
      have Q2:=Lib.hid q2;have Hgo:=Lib.hid hgo
      clear q2 q0 q3 b2 hgo y6 y9
      go_wp2_with fail
      refine Q2.out.mono ?_
      rintro _ w2 ⟨rfl,rfl⟩
      go_wp2_with fail
      refine bodyPost_ret (results_tmp rfl _ _ _) rfl ?_
      exact ⟨by rw [← Hgo.out];rfl,rfl⟩
  · have t1:decide ((0:Int) < j)=false:=by simp;omega
    rw [ownerGo_stop _ _ _ _ _ (by omega)] at hgo
    have Hgo:=Lib.hid hgo
    clear hgo
    go_wp2_with fail
    refine bodyPost_ret (results_tmp rfl _ _ _) rfl ?_
    exact ⟨by rw [← Hgo.out];rfl,rfl⟩
end Go.Proofs.YtdoaeapahgmfoaaGreatDoor
namespace Go.Proofs.YtdoaeapahgmfoaaGreatDoor
open Go.RowKit
def NxC (w:World) (y k:Nat):Prop:=w.heap[y]? =some (.cells #[.int .i64 (k:Int)] 3 (0,0))
structure YStp (y:Nat) (w w':World):Prop where
 os:w'.os=w.os
 tape:w'.tape=w.tape
 output:w'.output=w.output
 size:w.heap.size≤w'.heap.size
 keep:∀ b,b < w.heap.size→b≠y→w'.heap[b]? =w.heap[b]?
def NotY (w:World) (y:Nat):Nat→Prop:=fun b=>b < w.heap.size∧b≠y
section
variable {w w':World} {y:Nat}
theorem YStp.refl (y:Nat) (w:World):YStp y w w:=⟨rfl,rfl,rfl,Nat.le_refl _,fun _ _ _=>rfl⟩
theorem YStp.trans {a b d:World} (h:YStp y a b) (k:YStp y b d):YStp y a d:=
 ⟨k.os.trans h.os,k.tape.trans h.tape,k.output.trans h.output,Nat.le_trans h.size k.size,fun n hn hy=>(k.keep n (Nat.lt_of_lt_of_le hn h.size) hy).trans (h.keep n hn hy)⟩
theorem YStp.grow (h:Below w.heap.size w w'):YStp y w w':=⟨h.os,h.tape,h.output,h.size,fun b hb _=>h.block b hb⟩
theorem YStp.un (h:YStp y w w') {b:Nat} (hb:NotY w y b):NotY w' y b:=⟨Nat.lt_of_lt_of_le hb.1 h.size,hb.2⟩
theorem YStp.cell (h:YStp y w w') {b o:Nat} (hb:NotY w y b):w'.cell? ⟨b,o,none⟩=w.cell? ⟨b,o,none⟩:=World.cell?_of_block (h.keep b hb.1 hb.2)
theorem YStp.strs (h:YStp y w w') {v:Value} {l:List (List UInt8)} (hs:StrsAt w (NotY w y) v l):StrsAt w' (NotY w' y) v l:=hs.mono (fun _ _ hb=>h.cell hb) fun _ hb=>h.un hb
theorem YStp.exs (h:YStp y w w') {v:Value} {l:List Ex} (hs:ExsAt w (NotY w y) v l):ExsAt w' (NotY w' y) v l:=hs.mono (fun _ _ hb=>h.cell hb) fun _ hb=>h.un hb
theorem NxC.below {k:Nat} (h:NxC w y k) (hb:Below w.heap.size w w'):NxC w' y k:=(hb.block y (lt_of_blk h)).trans h
theorem NxC.set {k:Nat} (h:NxC w y k) (n:Nat) (v:Int) (hv:v=(n:Int)):NxC (w.setCell ⟨y,0,none⟩ (.int .i64 v)) y n∧YStp y w (w.setCell ⟨y,0,none⟩ (.int .i64 v)):=by
 subst hv
 exact ⟨heap_setCell_at (o:=0) h,rfl,rfl,rfl,by simp,fun b _ hne=>Below.heap_setCell _ _ _ _ hne⟩
end
theorem exsNodes_len (l:List Ex):l.length≤exsNodes l:=by
 induction l with
 | nil=>exact Nat.le_refl _
 | cons e r ih=>have:=Ex.nodes_l e;simp only [List.length_cons,exsNodes];omega
theorem lamF_fold (g:Nat→Ex→Nat):∀ (l:List Ex) (_:∀ e ∈ l,∀ k,g k e≤k+e.nodes) (k:Nat),l.foldl g k≤k+exsNodes l
 | [],_,k=>Nat.le_refl _
 | e :: r,h,k=>by
   simp only [List.foldl_cons,exsNodes]
   have h1:=lamF_fold g r (fun a ha=>h a (List.mem_cons_of_mem _ ha)) (g k e)
   have h2:=h e List.mem_cons_self k
   omega
theorem lamF_le:∀ (f:Nat) (e:Ex) (k:Nat),lambdasF f e k≤k+e.nodes
 | 0,_,_=>Nat.le_add_right _ _
 | f+1,e,k=>by
   have hn:=Ex.nodes_l e
   unfold lambdasF
   have h1:=lamF_fold (fun k e=>lambdasF f e k) e.l (fun a _ k=>lamF_le f a k) (if e.op=oLambda then k+1 else k)
   have h2:(if e.op=oLambda then k+1 else k)≤k+1:=by split <;> omega
   omega
def LamC (f:Nat):Prop:=∀ (e:Ex) (w:World) (y k:Nat) (vp vz:Value),e.nodes≤f→NxC w y k→k+e.nodes≤100000000→StrsAt w (NotY w y) vp e.p→ExsAt w (NotY w y) vz e.l→
 Calls Tryz.prog 113 #[.agg #[.string (toBA e.op),.int .i64 e.n,.string (toBA e.s),vp,vz],.pointer (some ⟨y,0,none⟩)] w fun r w'=>r= .returned (.tuple #[])∧NxC w' y (lambdasF f e k)∧YStp y w w'
set_option maxRecDepth 100000 in
set_option maxHeartbeats 20000000 in
theorem lam_step {f:Nat} (hf:LamC f):LamC (f+1):=by
 intro e w y k vp vz hnd hy hk hp hx
 obtain ⟨ap,cp,rfl,hpcap,hpr⟩:=id hp
 obtain ⟨al,cl,rfl,hlcap,hlr⟩:=id hx
 have hbA:=(Below.refl w.heap.size w).alloc (Nat.le_refl _) (.cells #[.string (toBA e.op),.int .i64 e.n,.string (toBA e.s),.slice ap e.p.length cp,.slice al e.l.length cl] 140)
 have hyA:=hy.below hbA
 have sA:YStp y w _:=YStp.grow hbA
 have hne:=Ex.nodes_l e
 have hblk:=heap_alloc_new w (.cells #[.string (toBA e.op),.int .i64 e.n,.string (toBA e.s),.slice ap e.p.length cp,.slice al e.l.length cl] 140)
 have hyl:=lt_of_blk hy
 have hbU:NotY (w.alloc (.cells #[.string (toBA e.op),.int .i64 e.n,.string (toBA e.s),.slice ap e.p.length cp,.slice al e.l.length cl] 140)) y w.heap.size:=⟨by simp,by omega⟩
 have hT:lambdasF (f+1) e k=e.l.foldl (fun k e=>lambdasF f e k) (if e.op=oLambda then k+1 else k):=rfl
 have c0:=cell_of_blk (o:=0) hblk
 have c4:=cell_of_blk (o:=4) hblk
 have hel:e.l.length≤100000000:=by have:=exsNodes_len e.l;omega
 have Hrow:=Lib.hid hlr;have Hf:=Lib.hid hf;have Hnd:=Lib.hid (show exsNodes e.l≤f by omega)
 by_cases h1:e.op=oLambda
 · have u2:((toBA e.op).toList == [108,97,109,98,100,97])=true:=by rw [m_toList];simp [h1,oLambda]
   rw [if_pos h1] at hT
   have wk:IntKind.i64.wrap ((k:Int)+1)=(k:Int)+1:=IntWalk.i64_in _ (by omega)
   have y0:=cell_of_blk (o:=0) hyA
   have f0:=frozen_of_blk (o:=0) hyA
   have yl:=lt_of_blk hyA
   obtain ⟨hY1,s1⟩:=hy.set (k+1) ((k:Int)+1) (by omega)
   have hbA2:=(Below.refl _ (w.setCell ⟨y,0,none⟩ (.int .i64 ((k:Int)+1)))).alloc (Nat.le_refl _) (.cells #[.string (toBA e.op),.int .i64 e.n,.string (toBA e.s),.slice ap e.p.length cp,.slice al e.l.length cl] 140)
   have hblk2:=heap_alloc_new (w.setCell ⟨y,0,none⟩ (.int .i64 ((k:Int)+1))) (.cells #[.string (toBA e.op),.int .i64 e.n,.string (toBA e.s),.slice ap e.p.length cp,.slice al e.l.length cl] 140)
   have hsz2:(w.setCell ⟨y,0,none⟩ (.int .i64 ((k:Int)+1))).heap.size=w.heap.size:=by simp
   rw [hsz2] at hblk2
   have c4:=cell_of_blk (o:=4) hblk2
   have HY0:=Lib.hid (hY1.below hbA2);have HS0:=Lib.hid (s1.trans (YStp.grow hbA2));have HT:=Lib.hid hT
   clear hlr hf hpr hblk hbU hbA hp hx h1 hy hyA hY1 s1 sA hT hbA2 hblk2 hsz2
   go_enter Tryz.func113,Tryz.ntmps113
   go_wp2_with fail
   skip
   go_loopw [17] (fun t wr=>∃ (j:Nat),j≤e.l.length∧t= .int .i64 j∧NxC wr y ((e.l.take j).foldl (fun k e=>lambdasF f e k) (k+1))∧YStp y w wr) (fun t _=>e.l.length - (intOf t).toNat)
   case atStart=>exact ⟨0,by omega,rfl,HY0.out,HS0.out⟩
   case round=>
    obtain ⟨j,hj,rfl,hY,sS⟩:=hrel
    by_cases hjl:j < e.l.length
    · have t1:decide ((j:Int) < (e.l.length:Int))=true:=by simp;omega
      obtain ⟨b,o,rfl,hbU,hrow⟩:=Hrow.out (by omega)
      obtain ⟨vp1,vz1,q0,q1,q2,q3,q4,hp1,hx1⟩:=(hrow.at_ _ _ _ j hjl).open_
      have Hp1:=Lib.hid hp1;have Hx1:=Lib.hid hx1
      obtain ⟨ap1,cp1,rfl,_⟩:=hp1
      obtain ⟨al1,cl1,rfl,_⟩:=hx1
      have q0:=(sS.cell hbU).trans q0
      have q1:=(sS.cell hbU).trans q1
      have q2:=(sS.cell hbU).trans q2
      have q3:=(sS.cell hbU).trans q3
      have q4:=(sS.cell hbU).trans q4
      have hbA:=(Below.refl wr.heap.size wr).alloc (Nat.le_refl _) (.cells #[.string (toBA e.l[j].op),.int .i64 e.l[j].n,.string (toBA e.l[j].s),.slice ap1 e.l[j].p.length cp1,.slice al1 e.l[j].l.length cl1] 140)
      have hsA:=sS.trans (YStp.grow hbA)
      have hm:=exs_mem (List.getElem_mem hjl)
      have hbt:=exsNodes_take e.l j hjl
      have hbl:exsNodes (e.l.take (j+1))≤exsNodes e.l:=exsNodes_le _ _
      have hle:=lamF_fold (fun k e=>lambdasF f e k) (e.l.take j) (fun a _ k=>lamF_le f a k) (k+1)
      have hcall:=Hf.out e.l[j] _ y _ _ _ (by have:=Hnd.out;omega) (hY.below hbA) (by omega) (hsA.strs Hp1.out) (hsA.exs Hx1.out)
      rw [← fold_take (fun k e=>lambdasF f e k) e.l (k+1) j hjl] at hcall
      have Hcall:=Lib.hid hcall;have HsA:=Lib.hid hsA
      clear hcall hsA hY sS hrow hm hbt hbl hle hbA
      go_wp2_with fail
      refine Hcall.out.mono ?_
      rintro _ w2 ⟨rfl,hY2,s2⟩
      have HY2:=Lib.hid hY2;have HS2:=Lib.hid (HsA.out.trans s2)
      clear hY2 s2 Hcall q0 q1 q2 q3 q4
      go_wp2_with fail
      go_roundw
      case rel=>exact ⟨j+1,by omega,by go_num,HY2.out,HS2.out⟩
      case measure=>simp [intOf];omega
    · have t1:decide ((j:Int) < (e.l.length:Int))=false:=by simp;omega
      obtain rfl:j=e.l.length:=by omega
      rw [List.take_of_length_le (Nat.le_refl _)] at hY
      have HYe:=Lib.hid hY;have HSe:=Lib.hid sS
      clear hY sS
      go_wp2_with fail
      go_end0
      exact ⟨rfl,by rw [HT.out];exact HYe.out,HSe.out⟩
 · have u2:((toBA e.op).toList == [108,97,109,98,100,97])=false:=m_ne h1
   rw [if_neg h1] at hT
   have HY0:=Lib.hid hyA;have HS0:=Lib.hid sA;have HT:=Lib.hid hT
   clear hlr hf hpr hblk hbU hbA hp hx h1 hy hyA sA hT
   go_enter Tryz.func113,Tryz.ntmps113
   go_wp2_with fail
   skip
   go_loopw [17] (fun t wr=>∃ (j:Nat),j≤e.l.length∧t= .int .i64 j∧NxC wr y ((e.l.take j).foldl (fun k e=>lambdasF f e k) k)∧YStp y w wr) (fun t _=>e.l.length - (intOf t).toNat)
   case atStart=>exact ⟨0,by omega,rfl,HY0.out,HS0.out⟩
   case round=>
    obtain ⟨j,hj,rfl,hY,sS⟩:=hrel
    by_cases hjl:j < e.l.length
    · have t1:decide ((j:Int) < (e.l.length:Int))=true:=by simp;omega
      obtain ⟨b,o,rfl,hbU,hrow⟩:=Hrow.out (by omega)
      obtain ⟨vp1,vz1,q0,q1,q2,q3,q4,hp1,hx1⟩:=(hrow.at_ _ _ _ j hjl).open_
      have Hp1:=Lib.hid hp1;have Hx1:=Lib.hid hx1
      obtain ⟨ap1,cp1,rfl,_⟩:=hp1
      obtain ⟨al1,cl1,rfl,_⟩:=hx1
      have q0:=(sS.cell hbU).trans q0
      have q1:=(sS.cell hbU).trans q1
      have q2:=(sS.cell hbU).trans q2
      have q3:=(sS.cell hbU).trans q3
      have q4:=(sS.cell hbU).trans q4
      have hbA:=(Below.refl wr.heap.size wr).alloc (Nat.le_refl _) (.cells #[.string (toBA e.l[j].op),.int .i64 e.l[j].n,.string (toBA e.l[j].s),.slice ap1 e.l[j].p.length cp1,.slice al1 e.l[j].l.length cl1] 140)
      have hsA:=sS.trans (YStp.grow hbA)
      have hm:=exs_mem (List.getElem_mem hjl)
      have hbt:=exsNodes_take e.l j hjl
      have hbl:exsNodes (e.l.take (j+1))≤exsNodes e.l:=exsNodes_le _ _
      have hle:=lamF_fold (fun k e=>lambdasF f e k) (e.l.take j) (fun a _ k=>lamF_le f a k) k
      have hcall:=Hf.out e.l[j] _ y _ _ _ (by have:=Hnd.out;omega) (hY.below hbA) (by omega) (hsA.strs Hp1.out) (hsA.exs Hx1.out)
      rw [← fold_take (fun k e=>lambdasF f e k) e.l k j hjl] at hcall
      have Hcall:=Lib.hid hcall;have HsA:=Lib.hid hsA
      clear hcall hsA hY sS hrow hm hbt hbl hle hbA
      go_wp2_with fail
      refine Hcall.out.mono ?_
      rintro _ w2 ⟨rfl,hY2,s2⟩
      have HY2:=Lib.hid hY2;have HS2:=Lib.hid (HsA.out.trans s2)
      clear hY2 s2 Hcall q0 q1 q2 q3 q4
      go_wp2_with fail
      go_roundw
      case rel=>exact ⟨j+1,by omega,by go_num,HY2.out,HS2.out⟩
      case measure=>simp [intOf];omega
    · have t1:decide ((j:Int) < (e.l.length:Int))=false:=by simp;omega
      obtain rfl:j=e.l.length:=by omega
      rw [List.take_of_length_le (Nat.le_refl _)] at hY
      have HYe:=Lib.hid hY;have HSe:=Lib.hid sS
      clear hY sS
      go_wp2_with fail
      go_end0
      exact ⟨rfl,by rw [HT.out];exact HYe.out,HSe.out⟩
theorem lam_all:∀ f,LamC f
 | 0=>fun e w y k vp vz hnd=>by have:=Ex.nodes_l e;omega
 | f+1=>lam_step (lam_all f)
end Go.Proofs.YtdoaeapahgmfoaaGreatDoor

/- otherStmts: the walk. -/
import Derived.Test.YtdoaeapahgmfoaaGreatDoorZ48
import Derived.Test.YtdoaeapahgmfoaaGreatDoorZ49
namespace Go.Proofs.YtdoaeapahgmfoaaGreatDoor
open Go.RowKit
theorem stmsRen_take (l:List Stm) (j:Nat) (hj:j < l.length):stmsRen (l.take (j+1))=stmsRen (l.take j) ++ [l[j].ren]:=by
 rw [stmsRen_map,stmsRen_map,take_snoc l j hj,List.map_append];rfl
theorem stmsRen_len (l:List Stm):(stmsRen l).length=l.length:=by rw [stmsRen_map,List.length_map]
def RtBox (wr:World) (s:Stm) (p:Value) (W:World):Prop:=∃ x vp vb ve,p= .pointer (some ⟨x,0,none⟩)∧W.heap[x]? =some (.cells #[.string (toBA s.kind),.string (toBA s.name),vp,.slice none 0 0,vb,ve] 68 (0,0))∧
 Below wr.heap.size wr W∧wr.heap.size≤x∧StrsAt W (Gx wr.heap.size W x) vp (s.p.map qn)∧StmsAt W (Gx wr.heap.size W x) vb (stmsRen s.body)∧StmsAt W (Gx wr.heap.size W x) ve (stmsRen s.els)
theorem rtBox_mk {wr wL wB wE W:World} {s:Stm} {x sL sB sE:Nat} {vp vb ve:Value} (h1:Below wL.heap.size wL wE) (h2:Below wB.heap.size wB wE) (hL:StrsAt wL (fun b=>sL≤b∧b < wL.heap.size) vp (s.p.map qn)) (hB:StmsAt wB (fun b=>sB≤b∧b < wB.heap.size) vb (stmsRen s.body))
 (hE:StmsAt wE (fun b=>sE≤b∧b < wE.heap.size) ve (stmsRen s.els)) (eL:wr.heap.size≤sL) (eB:wr.heap.size≤sB) (eE:wr.heap.size≤sE) (xL:x < sL∨wL.heap.size≤x) (xB:x < sB∨wB.heap.size≤x) (xE:x < sE∨wE.heap.size≤x)
 (hW:∀ b,b≠x→b < wE.heap.size→W.heap[b]? =wE.heap[b]?) (hs:wE.heap.size≤W.heap.size) (hx:W.heap[x]? =some (.cells #[.string (toBA s.kind),.string (toBA s.name),vp,.slice none 0 0,vb,ve] 68 (0,0)))
 (hb:Below wr.heap.size wr W) (hxr:wr.heap.size≤x):RtBox wr s (.pointer (some ⟨x,0,none⟩)) W:=by
 have z1:=h1.size
 have z2:=h2.size
 refine ⟨x,vp,vb,ve,rfl,hx,hb,hxr,?_,?_,?_⟩
 · refine hL.mono (fun b o hb=> ?_) fun b hb=>⟨by omega,by omega,by omega⟩
   rw [World.cell?_of_block (a:=⟨b,o,none⟩) (hW b (by omega) (by omega))]
   exact h1.cell (p:=⟨b,o,none⟩) hb.2
 · refine hB.mono (fun b o hb=> ?_) fun b hb=>⟨by omega,by omega,by omega⟩
   rw [World.cell?_of_block (a:=⟨b,o,none⟩) (hW b (by omega) (by omega))]
   exact h2.cell (p:=⟨b,o,none⟩) hb.2
 · refine hE.mono (fun b o hb=> ?_) fun b hb=>⟨by omega,by omega,by omega⟩
   exact World.cell?_of_block (a:=⟨b,o,none⟩) (hW b (by omega) (by omega))
set_option maxRecDepth 100000 in
set_option maxHeartbeats 20000000 in
theorem otherStmts_any:∀ (k:Nat) (l:List Stm) (w:World) (v:Value),stmsNodes l≤k→stmsBulk l≤1100000→StmsAt w (Lo w.heap.size) v l→
 Calls Tryz.prog 10 #[v] w (StmtsPost w (stmsRen l)):=by
 intro k
 induction k with
 | zero=>
   intro l w v hk hbulk hl
   obtain ⟨a,c,rfl,hrow⟩:=hl
   rcases l with _ | ⟨e,r⟩
   · clear hrow
     go_enter Tryz.func10,Tryz.ntmps10
     go_wp2_with fail
     go_loop [3,4] (fun o i=>o= .slice none 0 0∧i= .int .i64 0) (fun _ _=>0)
     case atStart=>exact ⟨rfl,rfl⟩
     case round=>
      obtain ⟨rfl,rfl⟩:=hrel
      go_wp2_with fail
      refine bodyPost_ret (results_tmp rfl _ _ _) rfl ?_
      exact ⟨Below.refl _ _,_,rfl,none,0,rfl,fun hp=>absurd hp (by decide)⟩
   · exfalso;unfold stmsNodes at hk;rw [Stm.nodes_eq] at hk;omega
 | succ k ih=>
   intro l w v hk hbulk hl
   obtain ⟨a,c,rfl,hrow⟩:=hl
   have hll:=stmsBulk_len l
   have Hih:=Lib.hid ih;have Hrow:=Lib.hid hrow
   have hlb:l.length≤1100000:=by omega
   clear ih hrow
   go_enter Tryz.func10,Tryz.ntmps10
   go_wp2_with fail
   go_loopw [3,4] (fun o i wr=>∃ (j:Nat) (ps:List SV),j≤l.length∧i= .int .i64 j∧RtSt w wr o (stmsRen (l.take j)) ps) (fun _ i _=>l.length - (intOf i).toNat)
   case atStart=>exact ⟨0,[],by omega,rfl,⟨rfl,World.ownsRow_nil _ _ _ _,Below.refl _ _,fun i h h2=>by simp at h2⟩⟩
   case round=>
    obtain ⟨j,ps,hj,rfl,hS⟩:=hrel
    have hbel:=hS.below
    by_cases hjl:j < l.length
    · have t1:decide ((j:Int) < (l.length:Int))=true:=by simp;omega
      obtain ⟨b,o,rfl,hbB,hr⟩:=Hrow.out (by omega)
      obtain ⟨vp,vl,vb,ve,q0,q1,q2,q3,q4,q5,hp,hx,hbd,hel⟩:=(hr.at_ _ _ _ j hjl).open_
      have hbl':b < w.heap.size:=hbB
      have q0:=(hbel.cell (p:=⟨b,_,none⟩) hbl').trans q0
      have q1:=(hbel.cell (p:=⟨b,_,none⟩) hbl').trans q1
      have q2:=(hbel.cell (p:=⟨b,_,none⟩) hbl').trans q2
      have q3:=(hbel.cell (p:=⟨b,_,none⟩) hbl').trans q3
      have q4:=(hbel.cell (p:=⟨b,_,none⟩) hbl').trans q4
      have q5:=(hbel.cell (p:=⟨b,_,none⟩) hbl').trans q5
      have hm:=stms_mem (List.getElem_mem hjl)
      have hne:=Stm.nodes_eq l[j]
      have hbe:=Stm.bulk_eq l[j]
      have hwr:=hbel.size
      have hblr:b < wr.heap.size:=by omega
      have hj0:(0:Int)≤(j:Int):=Int.natCast_nonneg _
      have hj1:(j:Int) < (l.length:Int):=by omega
      have hS5:∀ w':World,Below wr.heap.size wr w'→w'.cell? ⟨b,o+j * 6,none⟩=some (.string (toBA l[j].kind))∧w'.cell? ⟨b,o+j * 6+1,none⟩=some (.string (toBA l[j].name))∧w'.cell? ⟨b,o+j * 6+2,none⟩=some vp∧w'.cell? ⟨b,o+j * 6+4,none⟩=some vb∧w'.cell? ⟨b,o+j * 6+5,none⟩=some ve∧b < w'.heap.size:=fun w' hbw=>
       ⟨(hbw.cell (p:=⟨b,_,none⟩) hblr).trans q0,(hbw.cell (p:=⟨b,_,none⟩) hblr).trans q1,(hbw.cell (p:=⟨b,_,none⟩) hblr).trans q2,(hbw.cell (p:=⟨b,_,none⟩) hblr).trans q4,(hbw.cell (p:=⟨b,_,none⟩) hblr).trans q5,by have:=hbw.size;omega⟩
      have hcL:∀ W:World,Below wr.heap.size wr W→Calls Tryz.prog 16 #[vp] W fun e w'=>∃ a2 c2,e= .returned (.slice a2 l[j].p.length c2)∧Hid (StrsAt w' (fun b=>W.heap.size≤b∧b < w'.heap.size) (.slice a2 l[j].p.length c2) (l[j].p.map qn))∧Hid (Below W.heap.size W w')∧Hid (Below wr.heap.size wr w')∧
       w'.cell? ⟨b,o+j * 6,none⟩=some (.string (toBA l[j].kind))∧w'.cell? ⟨b,o+j * 6+1,none⟩=some (.string (toBA l[j].name))∧w'.cell? ⟨b,o+j * 6+2,none⟩=some vp∧w'.cell? ⟨b,o+j * 6+4,none⟩=some vb∧w'.cell? ⟨b,o+j * 6+5,none⟩=some ve∧b < w'.heap.size:=fun W hW=>by
       have hq:=below_grow hbel hwr hW
       refine (other_any l[j].p vp (hp.lift hq hq.size) (fun b h=>h) (by omega)).mono ?_
       rintro e w' ⟨v',rfl,ho,hb⟩
       have hbw:=below_grow hW hW.size hb
       have hst:StrsAt w' (fun b=>W.heap.size≤b∧b < w'.heap.size) v' (l[j].p.map qn):=strs_own (by simpa [Function.comp_def] using ho)
       have Hst:=Lib.hid hst
       obtain ⟨a9,c9,rfl,-,-⟩:=hst
       rw [List.length_map] at Hst ⊢
       exact ⟨a9,c9,rfl,Hst,Lib.hid hb,Lib.hid hbw,hS5 w' hbw⟩
      have hcS:∀ (t:List Stm) (vt:Value),stmsNodes t≤k→stmsBulk t≤1100000→StmsAt w (Lo w.heap.size) vt t→∀ W:World,Below wr.heap.size wr W→Calls Tryz.prog 10 #[vt] W fun e w'=>∃ a2 c2,e= .returned (.slice a2 (stmsRen t).length c2)∧Hid (StmsAt w' (fun b=>W.heap.size≤b∧b < w'.heap.size) (.slice a2 (stmsRen t).length c2) (stmsRen t))∧Hid (Below W.heap.size W w')∧Hid (Below wr.heap.size wr w')∧
       w'.cell? ⟨b,o+j * 6,none⟩=some (.string (toBA l[j].kind))∧w'.cell? ⟨b,o+j * 6+1,none⟩=some (.string (toBA l[j].name))∧w'.cell? ⟨b,o+j * 6+2,none⟩=some vp∧w'.cell? ⟨b,o+j * 6+4,none⟩=some vb∧w'.cell? ⟨b,o+j * 6+5,none⟩=some ve∧b < w'.heap.size:=fun t vt ht1 ht2 ht3 W hW=>by
       have hq:=below_grow hbel hwr hW
       refine (Hih.out t W vt ht1 ht2 (ht3.lift hq hq.size)).mono ?_
       rintro e w' ⟨hb,v,rfl,a2,c2,rfl,hr2⟩
       have hbw:=below_grow hW hW.size hb
       exact ⟨a2,c2,rfl,Lib.hid ⟨a2,c2,rfl,hr2⟩,Lib.hid hb,Lib.hid hbw,hS5 w' hbw⟩
      have hcB:=hcS l[j].body vb (by omega) (by omega) hbd
      have hcE:=hcS l[j].els ve (by omega) (by omega) hel
      have HL:=Lib.hid hcL;have HB:=Lib.hid hcB;have HE:=Lib.hid hcE;have Hx:=Lib.hid hx;have Hq3:=Lib.hid q3
      have hxb:exsBulk l[j].l≤1100000:=by omega
      have hxl:=exsBulk_len l[j].l
      clear hcL hcS hcB hcE hx hp hbd hel q3 hr hm hne hbe hS5
      go_upto_region 5 with fail
      go_cut [5] (fun p W=>RtBox wr l[j] p W)
      case first=>
       have hall:∀ (W:World) (ob:Obj) (o':Nat),b < W.heap.size→(W.alloc ob).cell? ⟨b,o',none⟩=W.cell? ⟨b,o',none⟩:=fun W ob o' h=>World.cell?_alloc_lt W ob ⟨b,o',none⟩ h
       have hset:∀ (x:Nat) (hk:b≠x) (W:World) (o1 o2:Nat) (u:Value),(W.setCell ⟨x,o1,none⟩ u).cell? ⟨b,o2,none⟩=W.cell? ⟨b,o2,none⟩:=fun x hk W o1 o2 u=>World.cell?_of_block (Below.heap_setCell W ⟨x,o1,none⟩ u b hk)
       go_region_held3 (fun w'=>w'.cell? ⟨b,o+j * 6,none⟩=some (.string (toBA l[j].kind))∧w'.cell? ⟨b,o+j * 6+1,none⟩=some (.string (toBA l[j].name))∧w'.cell? ⟨b,o+j * 6+2,none⟩=some vp∧w'.cell? ⟨b,o+j * 6+4,none⟩=some vb∧w'.cell? ⟨b,o+j * 6+5,none⟩=some ve)
        (first
          | go_keep
          | (go_split_ands
             refine ⟨?_,?_,?_,?_,?_⟩ <;> (first | (rw [hall wE _ _ (by omega)];assumption) | (rw [hall wB _ _ (by omega)];assumption) | (rw [hall wL _ _ (by omega)];assumption) | (simp only [hset wr.heap.size (by omega)];assumption) | (simp only [hset wL.heap.size (by omega)];assumption) | (simp only [hset wB.heap.size (by omega)];assumption))))
        ((first
          | (go_at_call 16;(with_reducible refine (HL.out _ ?_).mono ?_);(first | exact (Below.refl _ _).drew | exact ((Below.refl _ _).drew.alloc (Nat.le_refl _) _));rintro e wL ⟨aL,cL,rfl,hxL,hbL,hwL,k0,k1,k2,k4,k5,kl⟩;try (have hzL:=(hbL.out.block wr.heap.size (by simp)).trans (heap_alloc_new wr.drew _)))
          | (go_at_call 10;(with_reducible refine (HB.out _ ?_).mono ?_);(first | exact hwL.out | exact hwL.out.alloc hwL.out.size _);rintro e wB ⟨aB,cB,rfl,hxB,hbB2,hwB,k0,k1,k2,k4,k5,kl⟩;(first | (have hzB:=(hbB2.out.block wL.heap.size (by simp)).trans (heap_alloc_new wL _)) | (have hzB:=(hbB2.out.block _ (lt_of_blk hzL)).trans hzL) | skip))
          | (go_at_call 10;(with_reducible refine (HE.out _ ?_).mono ?_);(first | exact hwB.out | exact hwB.out.alloc hwB.out.size _);rintro e wE ⟨aE,cE,rfl,hxE,hbE,hwE,k0,k1,k2,k4,k5,kl⟩;(first | (have hzE:=(hbE.out.block wB.heap.size (by simp)).trans (heap_alloc_new wB _)) | (have hzE:=(hbE.out.block _ (lt_of_blk hzB)).trans hzB) | skip);(try (have fz0:=frozen_of_blk (o:=0) hzE;have fz1:=frozen_of_blk (o:=1) hzE;have fz2:=frozen_of_blk (o:=2) hzE;have fz3:=frozen_of_blk (o:=3) hzE;have fz4:=frozen_of_blk (o:=4) hzE;have fz5:=frozen_of_blk (o:=5) hzE;have zl:=lt_of_blk hzE;have cz0:=cell_of_blk (o:=0) hzE;have cz1:=cell_of_blk (o:=1) hzE;have cz2:=cell_of_blk (o:=2) hzE;have cz3:=cell_of_blk (o:=3) hzE;have cz4:=cell_of_blk (o:=4) hzE;have cz5:=cell_of_blk (o:=5) hzE)))))
       · go_wp2_with fail
         go_meet
         case rel=>
          have n1:=hbL.out.size
          have n2:=hbB2.out.size
          have n3:=hbE.out.size
          have m1:=hwL.out.size
          have m2:=hwB.out.size
          have m3:=hwE.out.size
          simp at n1 n2 n3
          exact rtBox_mk (wL:=wL) (wB:=wB) (wE:=wE) (below_grow hbB2.out hbB2.out.size hbE.out) (hbE.out) hxL.out hxB.out hxE.out (by first | omega | (simp;omega) | simp) (by first | omega | (simp;omega) | simp) (by first | omega | (simp;omega) | simp) (.inr (by omega)) (.inr (by omega)) (.inr (by omega)) (fun b _ hb=>Below.heap_alloc _ _ _ hb) (by simp) (heap_alloc_new _ _) (hwE.out.alloc hwE.out.size _) hwE.out.size
       · go_wp2_with fail
         go_meet
         case rel=>
          have n1:=hbL.out.size
          have n2:=hbB2.out.size
          have n3:=hbE.out.size
          have m1:=hwL.out.size
          have m2:=hwB.out.size
          have m3:=hwE.out.size
          simp at n1 n2 n3
          have hmk:=rtBox_mk (wr:=wr) (s:=l[j]) (x:=wB.heap.size) (W:=set6 wE wB.heap.size (.string (toBA l[j].kind)) (.string (toBA l[j].name)) (.slice aL l[j].p.length cL) (.slice none 0 0) (.slice aB (stmsRen l[j].body).length cB) (.slice aE (stmsRen l[j].els).length cE)) (wL:=wL) (wB:=wB) (wE:=wE) (below_grow (below_grow hbB2.out hbB2.out.size ((Below.refl wB.heap.size wB).alloc (Nat.le_refl _) _)) (by first | omega | (simp;omega) | simp) hbE.out) (below_grow ((Below.refl wB.heap.size wB).alloc (Nat.le_refl _) _) (by first | omega | (simp;omega) | simp) hbE.out) hxL.out hxB.out hxE.out (by first | omega | (simp;omega) | simp) (by first | omega | (simp;omega) | simp) (by first | omega | (simp;omega) | simp) (.inr (by omega)) (.inr (by omega)) (.inl (by first | omega | (simp;omega) | simp)) (fun b hb _=>set6_other hb) (by rw [set6_size];exact Nat.le_refl _) (set6_heap hzE) (set6_below hwE.out (by omega)) (by omega)
          exact hmk
       · go_wp2_with fail
         go_meet
         case rel=>
          have n1:=hbL.out.size
          have n2:=hbB2.out.size
          have n3:=hbE.out.size
          have m1:=hwL.out.size
          have m2:=hwB.out.size
          have m3:=hwE.out.size
          simp at n1 n2 n3
          have hmk:=rtBox_mk (wr:=wr) (s:=l[j]) (x:=wL.heap.size) (W:=set6 wE wL.heap.size (.string (toBA l[j].kind)) (.string (toBA l[j].name)) (.slice aL l[j].p.length cL) (.slice none 0 0) (.slice aB (stmsRen l[j].body).length cB) (.slice aE (stmsRen l[j].els).length cE)) (wL:=wL) (wB:=wB) (wE:=wE) (below_grow (below_grow ((Below.refl wL.heap.size wL).alloc (Nat.le_refl _) _) (by first | omega | (simp;omega) | simp) hbB2.out) (by first | omega | (simp;omega) | simp) hbE.out) (hbE.out) hxL.out hxB.out hxE.out (by first | omega | (simp;omega) | simp) (by first | omega | (simp;omega) | simp) (by first | omega | (simp;omega) | simp) (.inr (by omega)) (.inl (by first | omega | (simp;omega) | simp)) (.inl (by omega)) (fun b hb _=>set6_other hb) (by rw [set6_size];exact Nat.le_refl _) (set6_heap hzE) (set6_below hwE.out (by omega)) (by omega)
          exact hmk
       · go_wp2_with fail
         go_meet
         case rel=>
          have n1:=hbL.out.size
          have n2:=hbB2.out.size
          have n3:=hbE.out.size
          have m1:=hwL.out.size
          have m2:=hwB.out.size
          have m3:=hwE.out.size
          simp at n1 n2 n3
          have hmk:=rtBox_mk (wr:=wr) (s:=l[j]) (x:=wr.heap.size) (W:=set6 wE wr.heap.size (.string (toBA l[j].kind)) (.string (toBA l[j].name)) (.slice aL l[j].p.length cL) (.slice none 0 0) (.slice aB (stmsRen l[j].body).length cB) (.slice aE (stmsRen l[j].els).length cE)) (wL:=wL) (wB:=wB) (wE:=wE) (below_grow hbB2.out hbB2.out.size hbE.out) (hbE.out) hxL.out hxB.out hxE.out (by first | omega | (simp;omega) | simp) (by first | omega | (simp;omega) | simp) (by first | omega | (simp;omega) | simp) (.inl (by first | omega | (simp;omega) | simp)) (.inl (by omega)) (.inl (by omega)) (fun b hb _=>set6_other hb) (by rw [set6_size];exact Nat.le_refl _) (set6_heap hzE) (set6_below hwE.out (by omega)) (by omega)
          exact hmk
      case rest=>
       obtain ⟨x,vpn,vbn,ven,rfl,hblk,hbc,hxr,hps,hbs,hes⟩:=hcut
       have z1:=cell_of_blk (o:=1) hblk
       have f1:=frozen_of_blk (o:=1) hblk
       have zl:=lt_of_blk hblk
       have Hblk:=Lib.hid hblk;have Hbc:=Lib.hid hbc;have Hps:=Lib.hid hps;have Hbs:=Lib.hid hbs;have Hes:=Lib.hid hes
       have hnmb:l[j].name.length≤1100000:=by have:=stms_mem (List.getElem_mem hjl);have:=Stm.bulk_eq l[j];omega
       clear hblk hbc hps hbs hes q0 q1 q2 q4 q5 HL HB HE
       go_upto_if 44 with fail
       go_cut [] from 7 to 76 (fun W=>∃ vp2 vb2 ve2,W.heap[x]? =some (.cells #[.string (toBA l[j].ren.kind),.string (toBA l[j].ren.name),vp2,.slice none 0 0,vb2,ve2] 68 (0,0))∧Below wr.heap.size wr W∧StrsAt W (Gx wr.heap.size W x) vp2 (l[j].p.map qn)∧StmsAt W (Gx wr.heap.size W x) vb2 (stmsRen l[j].body)∧StmsAt W (Gx wr.heap.size W x) ve2 (stmsRen l[j].els))
       case first=>
        by_cases h2:l[j].name= []
        · have u1:(toBA l[j].name).toList.isEmpty=true:=by rw [m_toList];simp [h2]
          have hren:l[j].ren.name=l[j].name:=by rw [Stm.ren_name,if_pos h2,h2]
          clear h2
          rw [u1]
          go_wp2_with fail
          go_meet
          case rel=>exact ⟨vpn,vbn,ven,by rw [hren,Stm.ren_kind];exact Hblk.out,Hbc.out,Hps.out,Hbs.out,Hes.out⟩
        · have u1:(toBA l[j].name).toList.isEmpty=false:=by rw [m_toList];simp [h2]
          have hren:l[j].ren.name=qn l[j].name:=by rw [Stm.ren_name,if_neg h2]
          have f3:∀ w,(Op.stringOp .add (toBA l[j].name) ⟨#[113]⟩).run Tryz.prog w= .ok (.string (toBA (qn l[j].name))) w:=fun w=>by
           rw [← toBA_q]
           exact run_string_add_sum w _ _ (by rw [toBA_len];show _+1≤_;omega)
          clear h2
          rw [u1]
          go_wp2_with fail
          go_meet
          case rel=>
           have hc:∀ k o',Gx wr.heap.size wc x k→(wc.setCell ⟨x,1,none⟩ (.string (toBA (qn l[j].name)))).cell? ⟨k,o',none⟩=wc.cell? ⟨k,o',none⟩:=fun k o' hk=>World.cell?_of_block (Below.heap_setCell _ ⟨x,1,none⟩ _ k hk.2.2)
           have hG:∀ k,Gx wr.heap.size wc x k→Gx wr.heap.size (wc.setCell ⟨x,1,none⟩ (.string (toBA (qn l[j].name)))) x k:=fun k hk=>⟨hk.1,by simpa using hk.2.1,hk.2.2⟩
           refine ⟨vpn,vbn,ven,?_,Hbc.out.setCell (p:=⟨x,1,none⟩) hxr _,Hps.out.mono hc hG,Hbs.out.mono hc hG,Hes.out.mono hc hG⟩
           rw [hren,Stm.ren_kind]
           exact heap_setCell_at (o:=1) (v:= .string (toBA (qn l[j].name))) Hblk.out
       case rest=>
        obtain ⟨vp2,vb2,ve2,hblk3,hb3,hps3,hbs3,hes3⟩:=hcut
        obtain ⟨ap8,cp8,rfl,-,-⟩:=id hps3
        obtain ⟨ab8,cb8,rfl,-⟩:=id hbs3
        obtain ⟨ae8,ce8,rfl,-⟩:=id hes3
        rw [List.length_map] at hps3 hblk3
        obtain ⟨W0,rfl⟩:∃ W0,W0=wr:=⟨_,rfl⟩
        have hb3w:=below_grow hbel hwr hb3
        have Hblk3:=Lib.hid hblk3;have Hb3:=Lib.hid hb3;have Hb3w:=Lib.hid hb3w;have Hps3:=Lib.hid hps3;have Hbs3:=Lib.hid hbs3;have Hes3:=Lib.hid hes3;have HS:=Lib.hid hS
        obtain ⟨al,cl,rfl,_,hlr⟩:=id Hx.out
        have Hlr:=Lib.hid hlr
        have hx3l:=lt_of_blk hblk3
        have hb3s:=hb3.size
        have HnX:=Lib.hid (show ∀ (e:Ex),e ∈ l[j].l→e.bulk≤1100000 from fun e he=>by have:=(exs_mem he).1;omega)
        clear hblk3 hb3 hb3w hps3 hbs3 hes3 z1 f1 zl Hblk Hbc Hps Hbs Hes hlr hS hbel
        go_wp2_with fail
        go_loopw [6] (fun t wr=>∃ (m:Nat) (vo:Value) (qs:List (Value × Value)),m≤l[j].l.length∧t= .int .i64 m∧RxSt (wc.setCell ⟨x,3,none⟩ vo) wr vo (exsRen (l[j].l.take m)) qs) (fun t _=>l[j].l.length - (intOf t).toNat)
        case atStart=>exact ⟨0,_,_,by omega,rfl,RxSt.start Hblk3.out rfl⟩
        case round=>
         obtain ⟨m,vo,qs,hm,rfl,hT⟩:=hrel
         have hTb:=hT.below
         have e1:(wc.setCell ⟨x,3,none⟩ vo).heap.size=wc.heap.size:=by simp
         have yx:=(hTb.block x (by rw [e1];exact hx3l)).trans (heap_setCell_at (o:=3) (v:=vo) Hblk3.out)
         have x3:wr.cell? ⟨x,3,none⟩=some vo:=cell_of_blk (o:=3) yx
         have hbi:Below W0.heap.size W0 wr:=(Hb3.out.setCell (p:=⟨x,3,none⟩) hxr vo).trans (hTb.mono (by rw [e1];exact hb3s))
         have hwi:=hbi.size
         have hts:=hTb.size
         rw [e1] at hts
         have hbw:=below_grow HS.out.below hwr hbi
         have q3:wr.cell? ⟨b,o+j * 6+3,none⟩=some (.slice al l[j].l.length cl):=(hbi.cell (p:=⟨b,_,none⟩) hblr).trans Hq3.out
         by_cases hml:m < l[j].l.length
         · have t2:decide ((m:Int) < (l[j].l.length:Int))=true:=by simp;omega
           obtain ⟨bx,ox,rfl,hbxB,hrx⟩:=Hlr.out (by omega)
           obtain ⟨vp1,vl1,g0,g1,g2,g3,g4,hp1,hx1⟩:=(hrx.at_ _ _ _ m hml).open_
           have hbxl:bx < w.heap.size:=hbxB
           have g0:=(hbw.cell (p:=⟨bx,_,none⟩) hbxl).trans g0
           have g1:=(hbw.cell (p:=⟨bx,_,none⟩) hbxl).trans g1
           have g2:=(hbw.cell (p:=⟨bx,_,none⟩) hbxl).trans g2
           have g3:=(hbw.cell (p:=⟨bx,_,none⟩) hbxl).trans g3
           have g4:=(hbw.cell (p:=⟨bx,_,none⟩) hbxl).trans g4
           have m0:(0:Int)≤(m:Int):=Int.natCast_nonneg _
           have m1:(m:Int) < (l[j].l.length:Int):=by omega
           have hq:=hbw.trans ((Below.refl wr.heap.size wr).drew.mono hbw.size)
           have Hcall:=Lib.hid (otherExpr_any _ l[j].l[m] wr.drew vp1 vl1 (Nat.le_refl _) (HnX.out _ (List.getElem_mem hml)) (hp1.lift hq hq.size) (hx1.lift hq hq.size))
           have HT:=Lib.hid hT;have Hyx:=Lib.hid yx
           have HJ:=Lib.hid (exsRen_take l[j].l m hml)
           have hxi:x < wr.heap.size:=by omega
           have hbri:b < wr.heap.size:=by omega
           have hbxi:bx < wr.heap.size:=by omega
           have hown0:∀ g,vo.ownBlock=some g→wc.heap.size≤g∧g < wr.heap.size:=fun g hg=>by have:=HT.out.own.lt g hg;rw [e1] at this;exact this
           have Hown0:=Lib.hid hown0
           clear hp1 hx1 hrx yx hTb hq hT hown0 hbi hbw
           go_upto_region 11 with fail
           have hS0:(fun w':World=>w'.cell? ⟨x,3,none⟩=some vo∧w'.cell? ⟨b,o+j * 6+3,none⟩=some (.slice (some ⟨bx,ox,none⟩) l[j].l.length cl)∧w'.cell? ⟨bx,ox+m * 5,none⟩=some (.string (toBA l[j].l[m].op))∧w'.cell? ⟨bx,ox+m * 5+1,none⟩=some (.int .i64 l[j].l[m].n)∧w'.cell? ⟨bx,ox+m * 5+2,none⟩=some (.string (toBA l[j].l[m].s))∧w'.cell? ⟨bx,ox+m * 5+3,none⟩=some vp1∧w'.cell? ⟨bx,ox+m * 5+4,none⟩=some vl1) wr.drew:=⟨x3,q3,g0,g1,g2,g3,g4⟩
           refine wp_region_rest (z:=14) (S:=fun w':World=>w'.cell? ⟨x,3,none⟩=some vo∧w'.cell? ⟨b,o+j * 6+3,none⟩=some (.slice (some ⟨bx,ox,none⟩) l[j].l.length cl)∧w'.cell? ⟨bx,ox+m * 5,none⟩=some (.string (toBA l[j].l[m].op))∧w'.cell? ⟨bx,ox+m * 5+1,none⟩=some (.int .i64 l[j].l[m].n)∧w'.cell? ⟨bx,ox+m * 5+2,none⟩=some (.string (toBA l[j].l[m].s))∧w'.cell? ⟨bx,ox+m * 5+3,none⟩=some vp1∧w'.cell? ⟨bx,ox+m * 5+4,none⟩=some vl1) (by rfl) ?_
           change wpAnyR _ _ _ _ _ _ _ _ _ wr.drew
           refine wpAnyR_take (i:=0) [1,12,14] (v:= ?_) rfl (by kernel_rfl) (by kernel_rfl) (by kernel_rfl) (by kernel_rfl) (fun _ _ _ h=>h) (Or.inl ⟨by rfl,?_⟩) (by assumption) ?_
           rotate_left
           · intro w hSw
             (try dsimp only at hSw)
             go_simp
             first | done | with_reducible rfl
           try simp only [Act.put,List.setIfInBounds_toArray]
           refine wpAnyR_take (i:=1) [12,14] (v:= ?_) rfl (by kernel_rfl) (by kernel_rfl) (by kernel_rfl) (by kernel_rfl) (fun _ _ _ h=>h) (Or.inl ⟨by rfl,?_⟩) (by assumption) ?_
           rotate_left
           · intro w hSw
             (try dsimp only at hSw)
             go_simp
             first | done | with_reducible rfl
           try simp only [Act.put]
           refine wpAnyR_take (i:=2) [4,5,6,8,9,10,11,12,14] (v:= ?_) rfl (by kernel_rfl) (by kernel_rfl) (by kernel_rfl) (by kernel_rfl) (fun _ _ _ h=>h) (Or.inl ⟨by rfl,?_⟩) (by assumption) ?_
           rotate_left
           · intro w hSw
             (try dsimp only at hSw)
             go_simp
             first | done | with_reducible rfl
           try simp only [Act.put]
           refine wpAnyR_take (i:=3) [4,5,6,8,9,10,11,12,14] (v:= ?_) rfl (by kernel_rfl) (by kernel_rfl) (by kernel_rfl) (by kernel_rfl) (fun _ _ _ h=>h) (Or.inl ⟨by rfl,?_⟩) (by assumption) ?_
           rotate_left
           · intro w hSw
             (try dsimp only at hSw)
             go_simp
             first | done | with_reducible rfl
           try simp only [Act.put]
           refine wpAnyR_take (i:=4) [5,6,8,9,10,11,12,14] (v:= ?_) rfl (by kernel_rfl) (by kernel_rfl) (by kernel_rfl) (by kernel_rfl) (fun _ _ _ h=>h) (Or.inl ⟨by rfl,?_⟩) (by assumption) ?_
           rotate_left
           · intro w hSw
             (try dsimp only at hSw)
             go_simp
             first | done | with_reducible rfl
           try simp only [Act.put]
           refine wpAnyR_take (i:=5) [6,8,9,10,11,12,14] (v:= ?_) rfl (by kernel_rfl) (by kernel_rfl) (by kernel_rfl) (by kernel_rfl) (fun _ _ _ h=>h) (Or.inl ⟨by rfl,?_⟩) (by assumption) ?_
           rotate_left
           · intro w hSw
             (try dsimp only at hSw)
             go_simp
             first | done | with_reducible rfl
           try simp only [Act.put]
           refine wpAnyR_take (i:=6) [8,9,10,11,12,14] (v:= ?_) rfl (by kernel_rfl) (by kernel_rfl) (by kernel_rfl) (by kernel_rfl) (fun _ _ _ h=>h) (Or.inl ⟨by rfl,?_⟩) (by assumption) ?_
           rotate_left
           · intro w hSw
             (try dsimp only at hSw)
             go_simp
             first | done | with_reducible rfl
           try simp only [Act.put]
           refine wpAnyR_take (i:=7) [8,9,10,11,12,14] (v:= ?_) rfl (by kernel_rfl) (by kernel_rfl) (by kernel_rfl) (by kernel_rfl) (fun _ _ _ h=>h) (Or.inl ⟨by rfl,?_⟩) (by assumption) ?_
           rotate_left
           · intro w hSw
             (try dsimp only at hSw)
             go_simp
             first | done | with_reducible rfl
           try simp only [Act.put]
           refine wpAnyR_take (i:=8) [9,10,11,12,14] (v:= ?_) rfl (by kernel_rfl) (by kernel_rfl) (by kernel_rfl) (by kernel_rfl) (fun _ _ _ h=>h) (Or.inl ⟨by rfl,?_⟩) (by assumption) ?_
           rotate_left
           · intro w hSw
             (try dsimp only at hSw)
             go_simp
             first | done | with_reducible rfl
           try simp only [Act.put]
           refine wpAnyR_take (i:=9) [10,11,12,14] (v:= ?_) rfl (by kernel_rfl) (by kernel_rfl) (by kernel_rfl) (by kernel_rfl) (fun _ _ _ h=>h) (Or.inl ⟨by rfl,?_⟩) (by assumption) ?_
           rotate_left
           · intro w hSw
             (try dsimp only at hSw)
             go_simp
             first | done | with_reducible rfl
           try simp only [Act.put]
           refine wpAnyR_one (i:=10) (by kernel_rfl) rfl (fun K hK=> ?_)
           go_simp
           go_wp2_with (go_at_call 31;(with_reducible refine Hcall.out.mono ?_);rintro _ w5 ⟨hb5,vp2,vl2,rfl,hp2,hl2⟩)
           have hb5:Below wr.heap.size wr w5:=(Below.refl wr.heap.size wr).drew.trans hb5
           have hs5:=hb5.size
           have hq5:∀ k o',k < wr.heap.size→w5.cell? ⟨k,o',none⟩=wr.cell? ⟨k,o',none⟩:=fun k o' h=>hb5.cell (p:=⟨k,o',none⟩) h
           have hS1:(fun w':World=>w'.cell? ⟨x,3,none⟩=some vo∧w'.cell? ⟨b,o+j * 6+3,none⟩=some (.slice (some ⟨bx,ox,none⟩) l[j].l.length cl)∧w'.cell? ⟨bx,ox+m * 5,none⟩=some (.string (toBA l[j].l[m].op))∧w'.cell? ⟨bx,ox+m * 5+1,none⟩=some (.int .i64 l[j].l[m].n)∧w'.cell? ⟨bx,ox+m * 5+2,none⟩=some (.string (toBA l[j].l[m].s))∧w'.cell? ⟨bx,ox+m * 5+3,none⟩=some vp1∧w'.cell? ⟨bx,ox+m * 5+4,none⟩=some vl1) w5:=⟨(hq5 _ _ hxi).trans x3,(hq5 _ _ (by omega)).trans q3,(hq5 _ _ (by omega)).trans g0,(hq5 _ _ (by omega)).trans g1,(hq5 _ _ (by omega)).trans g2,(hq5 _ _ (by omega)).trans g3,(hq5 _ _ (by omega)).trans g4⟩
           have Hp2:=Lib.hid hp2;have Hl2:=Lib.hid hl2;have Hb5:=Lib.hid hb5
           obtain ⟨ap9,cp9,rfl,-,-⟩:=id hp2
           obtain ⟨al9,cl9,rfl,-,-⟩:=id hl2
           rw [List.length_map] at Hp2
           clear hp2 hl2 hb5 hS0 hq5
           refine hK.out _ _ (fun _=>hS1) ?_
           clear hK K
           refine wpAnyR_one (i:=11) (by kernel_rfl) rfl (fun K hK=> ?_)
           go_simp
           have hal5:∀ (ob:Obj) k o',k < w5.heap.size→(w5.alloc ob).cell? ⟨k,o',none⟩=w5.cell? ⟨k,o',none⟩:=fun ob k o' h=>World.cell?_alloc_lt w5 ob ⟨k,o',none⟩ h
           obtain ⟨s0,s1,s2,s3,s4,s5,s6⟩:=hS1
           have hS2:(fun w':World=>w'.cell? ⟨x,3,none⟩=some vo∧w'.cell? ⟨b,o+j * 6+3,none⟩=some (.slice (some ⟨bx,ox,none⟩) l[j].l.length cl)∧w'.cell? ⟨bx,ox+m * 5,none⟩=some (.string (toBA l[j].l[m].op))∧w'.cell? ⟨bx,ox+m * 5+1,none⟩=some (.int .i64 l[j].l[m].n)∧w'.cell? ⟨bx,ox+m * 5+2,none⟩=some (.string (toBA l[j].l[m].s))∧w'.cell? ⟨bx,ox+m * 5+3,none⟩=some vp1∧w'.cell? ⟨bx,ox+m * 5+4,none⟩=some vl1) (w5.alloc (.cells #[.string (toBA l[j].l[m].op),.int .i64 l[j].l[m].n,.string (toBA l[j].l[m].ren.s),.slice ap9 l[j].l[m].p.length cp9,.slice al9 (exsRen l[j].l[m].l).length cl9] 71)):=⟨(hal5 _ _ _ (by omega)).trans s0,(hal5 _ _ _ (by omega)).trans s1,(hal5 _ _ _ (by omega)).trans s2,(hal5 _ _ _ (by omega)).trans s3,(hal5 _ _ _ (by omega)).trans s4,(hal5 _ _ _ (by omega)).trans s5,(hal5 _ _ _ (by omega)).trans s6⟩
           clear hal5
           refine hK.out _ _ (fun _=>hS2) ?_
           clear hK K hS2
           refine wpAnyR_one (i:=12) (by kernel_rfl) rfl (fun K hK=> ?_)
           have hS5:=HT.out.grow Hb5.out
           have hle5:=hS5.below.size
           obtain ⟨i2,hi2,hy0,hy1,hy2⟩:=info_parts Tryz.infoREx
           have hln:(exsRen (l[j].l.take m)).length=m:=by rw [exsRen_len];simp;omega
           refine step_append_lies _ (by rfl) _ _ _ (by rfl) (wc.setCell ⟨x,3,none⟩ vo).heap.size 71 i2 _ 5 88 Tryz.underlying66 hi2 hy0 hy1 hy2 rfl (by decide) vo (exsRen (l[j].l.take m)).length (exCells (exsRen (l[j].l.take m)) qs) (by rfl) (hS5.own.alloc _) ⟨w5.heap.size,0,none⟩ 1 1 [.string (toBA l[j].l[m].op),.int .i64 l[j].l[m].n,.string (toBA l[j].l[m].ren.s),.slice ap9 l[j].l[m].p.length cp9,.slice al9 (exsRen l[j].l[m].l).length cl9] (by rfl) rfl (World.news_of_block (cs:= #[.string (toBA l[j].l[m].op),.int .i64 l[j].l[m].n,.string (toBA l[j].l[m].ren.s),.slice ap9 l[j].l[m].p.length cp9,.slice al9 (exsRen l[j].l[m].l).length cl9]) (heap_alloc_new w5 _)) (by simp [Value.oneCell']) (by decide) (by rw [hln];unfold maxLen;omega) (by rw [hln];omega) (by simp at hle5 ⊢;omega) (w5.heap.size+1) (by simp) ?_
           intro g6 cap6 w6 hown6 hgr6 hat6 hlt6
           have hq6:∀ k,k < wc.heap.size→w6.heap[k]? =w5.heap[k]? :=fun k hk=>(hgr6.block k (by simp;omega) (fun e9=>by have:=(Hown0.out k e9.symm).1;omega)).trans (Below.heap_alloc _ _ _ (by omega))
           have hc6:∀ k o',k < wc.heap.size→w6.cell? ⟨k,o',none⟩=w5.cell? ⟨k,o',none⟩:=fun k o' hk=>World.cell?_of_block (hq6 k hk)
           have hbw6:b < wc.heap.size:=by omega
           have hS3:(fun w':World=>w'.cell? ⟨x,3,none⟩=some vo∧w'.cell? ⟨b,o+j * 6+3,none⟩=some (.slice (some ⟨bx,ox,none⟩) l[j].l.length cl)∧w'.cell? ⟨bx,ox+m * 5,none⟩=some (.string (toBA l[j].l[m].op))∧w'.cell? ⟨bx,ox+m * 5+1,none⟩=some (.int .i64 l[j].l[m].n)∧w'.cell? ⟨bx,ox+m * 5+2,none⟩=some (.string (toBA l[j].l[m].s))∧w'.cell? ⟨bx,ox+m * 5+3,none⟩=some vp1∧w'.cell? ⟨bx,ox+m * 5+4,none⟩=some vl1) w6:=⟨(hc6 _ _ hx3l).trans s0,(hc6 _ _ hbw6).trans s1,(hc6 _ _ (by omega)).trans s2,(hc6 _ _ (by omega)).trans s3,(hc6 _ _ (by omega)).trans s4,(hc6 _ _ (by omega)).trans s5,(hc6 _ _ (by omega)).trans s6⟩
           have hG5:∀ k,wr.heap.size≤k∧k < w5.heap.size→Gd (wc.setCell ⟨x,3,none⟩ vo).heap.size w5 vo k:=fun k hk=>⟨by rw [e1];omega,hk.2,fun e9=>by have:=(Hown0.out k e9).2;omega⟩
           have hR6:=hS5.put l[j].l[m].ren _ _ (by rw [Ex.ren_p];exact Hp2.out.mono (fun _ _ _=>rfl) hG5) (by rw [Ex.ren_l,← exsRen_map];exact Hl2.out.mono (fun _ _ _=>rfl) hG5) (by rw [Ex.ren_op,Ex.ren_n];exact hown6) hgr6 hat6
           have HR7:=Lib.hid (RxSt.storeG Hblk3.out hR6)
           have hy6:=(hq6 x hx3l).trans ((Hb5.out.block x hxi).trans Hyx.out)
           have z4:=cell_of_blk (o:=3) hy6
           have fz4:=frozen_of_blk (o:=3) hy6
           have zl4:=lt_of_blk hy6
           have z4:w6.cell? ⟨x,3,none⟩=some vo:=z4
           clear hown6 hgr6 hat6 hR6 hS5 hG5 hle5 hy6 s0 s1 s2 s3 s4 s5 s6 hq6 hc6 hi2 hy0 hy1 hy2
           rw [hln] at HR7
           simp only [hln]
           refine hK.out _ _ (fun _=>hS3) ?_
           clear hK K
           refine wpAnyR_take (i:=13) [14] (v:= ?_) rfl (by kernel_rfl) (by kernel_rfl) (by kernel_rfl) (by kernel_rfl) (fun _ _ _ h=>h) (Or.inl ⟨by rfl,?_⟩) (by assumption) ?_
           rotate_left
           · intro w hSw
             (try dsimp only at hSw)
             go_simp
             first | done | with_reducible rfl
           try simp only [Act.put,List.setIfInBounds_toArray]
           refine wpAnyR_one (i:=14) (by kernel_rfl) rfl (fun K hK=> ?_)
           go_simp
           refine hK.out _ _ (fun h=>absurd h (by decide)) ?_
           clear hK K hS3
           refine wpAnyR_done (by kernel_rfl) ?_ _
           go_wp2_with fail
           go_roundw
           case rel=>exact ⟨m+1,_,_,by omega,by go_num,by rw [HJ.out];exact HR7.out⟩
           case measure=>simp [intOf];omega
         · have t2:decide ((m:Int) < (l[j].l.length:Int))=false:=by simp;omega
           obtain rfl:m=l[j].l.length:=by omega
           rw [List.take_of_length_le (Nat.le_refl _)] at hT
           obtain ⟨av9,cv9,rfl,-,-⟩:=id hT.fin
           have d0:wr.cell? ⟨x,0,none⟩=some (.string (toBA l[j].ren.kind)):=cell_of_blk (o:=0) yx
           have d1:wr.cell? ⟨x,1,none⟩=some (.string (toBA l[j].ren.name)):=cell_of_blk (o:=1) yx
           have d2:wr.cell? ⟨x,2,none⟩=some (.slice ap8 l[j].p.length cp8):=cell_of_blk (o:=2) yx
           have d3:wr.cell? ⟨x,3,none⟩=some (.slice av9 (exsRen l[j].l).length cv9):=cell_of_blk (o:=3) yx
           have d4:wr.cell? ⟨x,4,none⟩=some (.slice ab8 (stmsRen l[j].body).length cb8):=cell_of_blk (o:=4) yx
           have d5:wr.cell? ⟨x,5,none⟩=some (.slice ae8 (stmsRen l[j].els).length ce8):=cell_of_blk (o:=5) yx
           have hv:SvAt wr (Gx W0.heap.size wr x) ⟨.slice ap8 l[j].p.length cp8,.slice av9 (exsRen l[j].l).length cv9,.slice ab8 (stmsRen l[j].body).length cb8,.slice ae8 (stmsRen l[j].els).length ce8⟩ l[j].ren:=by
            have hc:∀ k o',Gx W0.heap.size wc x k→wr.cell? ⟨k,o',none⟩=wc.cell? ⟨k,o',none⟩:=fun k o' hk=>(hTb.cell (p:=⟨k,o',none⟩) (by rw [e1];exact hk.2.1)).trans (World.cell?_of_block (Below.heap_setCell wc ⟨x,3,none⟩ _ k hk.2.2))
            have hG:∀ k,Gx W0.heap.size wc x k→Gx W0.heap.size wr x k:=fun k hk=>⟨hk.1,by have:=hk.2.1;omega,hk.2.2⟩
            exact ⟨by rw [Stm.ren_p];exact Hps3.out.mono hc hG,by rw [Stm.ren_l,← exsRen_map];exact hT.fin.mono (fun _ _ _=>rfl) (fun k hk=>⟨by have:=hk.1;rw [e1] at this;omega,hk.2,by have:=hk.1;rw [e1] at this;omega⟩),by rw [Stm.ren_body];exact Hbs3.out.mono hc hG,by rw [Stm.ren_els];exact Hes3.out.mono hc hG⟩
           have Hv:=Lib.hid hv
           have hS2:=HS.out.grow hbi
           have hln:(stmsRen (l.take j)).length=j:=by rw [stmsRen_len];simp;omega
           have hS2s:=hS2.below.size
           have Hown0:=Lib.hid (fun k e=>(HS.out.own.lt k e).2)
           obtain ⟨i2,hi2,hy0,hy1,hy2⟩:=info_parts Tryz.infoRSt
           have HJ:=Lib.hid (stmsRen_take l j hjl)
           clear hv yx hTb hT hbi hbw
           go_wp2_with (at_builtin;refine wpList_append_lies (wr.alloc (.cells #[.string (toBA l[j].ren.kind),.string (toBA l[j].ren.name),.slice ap8 l[j].p.length cp8,.slice av9 (exsRen l[j].l).length cv9,.slice ab8 (stmsRen l[j].body).length cb8,.slice ae8 (stmsRen l[j].els).length ce8] 68)) rfl (.tmp 73) (.tmp 75) 22 rfl w.heap.size 68 i2 _ 6 128 Tryz.underlying22 hi2 hy0 hy1 hy2 rfl (by decide) _ (stmsRen (l.take j)).length (stCells (stmsRen (l.take j)) ps) rfl (hS2.own.alloc _) ⟨wr.heap.size,0,none⟩ 1 1 [.string (toBA l[j].ren.kind),.string (toBA l[j].ren.name),.slice ap8 l[j].p.length cp8,.slice av9 (exsRen l[j].l).length cv9,.slice ab8 (stmsRen l[j].body).length cb8,.slice ae8 (stmsRen l[j].els).length ce8] rfl rfl (World.news_of_block (cs:= #[.string (toBA l[j].ren.kind),.string (toBA l[j].ren.name),.slice ap8 l[j].p.length cp8,.slice av9 (exsRen l[j].l).length cv9,.slice ab8 (stmsRen l[j].body).length cb8,.slice ae8 (stmsRen l[j].els).length ce8]) (heap_alloc_new wr _)) (by simp [Value.oneCell']) (by decide) (by rw [hln];unfold maxLen;omega) (by rw [hln];omega) (by simp;omega) (wr.heap.size+1) (by simp) ?_;intro g5 cap5 w5 hown5 hgrow5 hat5 hlt5)
           have hGd:∀ k,Gx W0.heap.size wr x k→∀ vo:Value,(∀ q,vo.ownBlock=some q→q < W0.heap.size)→Gd w.heap.size wr vo k:=fun k hk vo hv=>⟨by have:=hk.1;omega,hk.2.1,fun e=>by have:=hv k e;have:=hk.1;omega⟩
           have R4:=hS2.put l[j].ren _ (Hv.out.mono (fun _ _ _=>rfl) fun k hk=>hGd k hk _ Hown0.out) hown5 hgrow5 hat5
           rw [← HJ.out] at R4
           go_roundw
           case rel=>
            first
             | exact ⟨j+1,_,by omega,by go_num,R4⟩
             | (rw [hln] at R4;exact ⟨j+1,_,by omega,by go_num,R4⟩)
           case measure=>simp [intOf];omega
    · have t1:decide ((j:Int) < (l.length:Int))=false:=by simp;omega
      obtain rfl:j=l.length:=by omega
      rw [List.take_of_length_le (Nat.le_refl _)] at hS
      have Hf:=Lib.hid hS.fin
      clear hS
      go_wp2_with fail
      refine bodyPost_ret (results_tmp rfl _ _ _) rfl ?_
      exact ⟨hbel,_,rfl,Hf.out⟩
end Go.Proofs.YtdoaeapahgmfoaaGreatDoor

/- otherExpr: the walk. -/
import Derived.Test.YtdoaeapahgmfoaaGreatDoorZ33
import Derived.Test.YtdoaeapahgmfoaaGreatDoorZ47
namespace Go.Proofs.YtdoaeapahgmfoaaGreatDoor
open Go.RowKit
def OxPost (w:World) (e:Ex) (en:Ending) (w':World):Prop:=Below w.heap.size w w'∧∃ vp vl,en= .returned (.agg #[.string (toBA e.op),.int .i64 e.n,.string (toBA e.ren.s),vp,vl])∧
 StrsAt w' (fun b=>w.heap.size≤b∧b < w'.heap.size) vp (e.p.map qn)∧ExsAt w' (fun b=>w.heap.size≤b∧b < w'.heap.size) vl (exsRen e.l)
def OxBox (wr:World) (e:Ex) (p:Value) (W:World):Prop:=∃ x vp,p= .pointer (some ⟨x,0,none⟩)∧W.heap[x]? =some (.cells #[.string (toBA e.op),.int .i64 e.n,.string (toBA e.s),vp,.slice none 0 0] 71 (0,0))∧Below wr.heap.size wr W∧wr.heap.size≤x∧
 StrsAt W (fun b=>wr.heap.size≤b∧b < W.heap.size∧b≠x) vp (e.p.map qn)
theorem exsRen_take (l:List Ex) (j:Nat) (hj:j < l.length):exsRen (l.take (j+1))=exsRen (l.take j) ++ [l[j].ren]:=by
 rw [exsRen_map,exsRen_map,take_snoc l j hj,List.map_append];rfl
theorem exsRen_len (l:List Ex):(exsRen l).length=l.length:=by rw [exsRen_map,List.length_map]
theorem RxSt.start {wc:World} {x q:Nat} {cs:Array Value} {T:TypeId} (hx:wc.heap[x]? =some (.cells cs T (0,0))) (hq:cs[q]? =some (.slice none 0 0)):RxSt (wc.setCell ⟨x,q,none⟩ (.slice none 0 0)) wc (.slice none 0 0) [] []:=by
 refine ⟨rfl,World.ownsRow_nil _ _ _ _,⟨rfl,rfl,rfl,by simp,fun k hk=> ?_⟩,fun i h=>by simp at h⟩
 by_cases e:k=x
 · subst e
   rw [heap_setCell_at (o:=q) (v:= .slice none 0 0) hx,hx]
   congr 2
   apply Array.ext
   · simp
   · intro i h1 h2
     rw [Array.getElem_setIfInBounds]
     split
     · rename_i h;subst h
       have:=Array.getElem?_eq_getElem h1
       rw [hq] at this
       exact (Option.some.inj this).symm
     · rfl
 · exact (Below.heap_setCell wc ⟨x,q,none⟩ _ k e).symm
set_option maxRecDepth 100000 in
set_option maxHeartbeats 20000000 in
theorem otherExpr_any:∀ (k:Nat) (e:Ex) (w:World) (vp vl:Value),e.nodes≤k→e.bulk≤1100000→StrsAt w (Lo w.heap.size) vp e.p→ExsAt w (Lo w.heap.size) vl e.l→
 Calls Tryz.prog 31 #[.agg #[.string (toBA e.op),.int .i64 e.n,.string (toBA e.s),vp,vl]] w (OxPost w e):=by
 intro k
 induction k with
 | zero=>intro e w vp vl hk;exfalso;have:=Ex.nodes_l e;omega
 | succ k ih=>
   intro e w vp vl hk hbulk hp hx
   obtain ⟨ap,cp,rfl,_⟩:=id hp
   obtain ⟨al,cl,rfl,_,hlr⟩:=id hx
   have hne:=Ex.nodes_l e
   have hbe:=Ex.bulk_eq e
   have hel:=exsBulk_len e.l
   have hbA:=((Below.refl w.heap.size w).alloc (Nat.le_refl _) (.cells #[.string (toBA e.op),.int .i64 e.n,.string (toBA e.s),.slice ap e.p.length cp,.slice al e.l.length cl] 71)).alloc (by simp) (.cells #[.string ⟨#[]⟩,.int .i64 0,.string ⟨#[]⟩,.slice none 0 0,.slice none 0 0] 71)
   have hz1:((w.alloc (.cells #[.string (toBA e.op),.int .i64 e.n,.string (toBA e.s),.slice ap e.p.length cp,.slice al e.l.length cl] 71)).alloc (.cells #[.string ⟨#[]⟩,.int .i64 0,.string ⟨#[]⟩,.slice none 0 0,.slice none 0 0] 71)).heap[w.heap.size]? =some (.cells #[.string (toBA e.op),.int .i64 e.n,.string (toBA e.s),.slice ap e.p.length cp,.slice al e.l.length cl] 71 (0,0)):=(Below.heap_alloc _ _ _ (by simp)).trans (heap_alloc_new w _)
   have hz2:((w.alloc (.cells #[.string (toBA e.op),.int .i64 e.n,.string (toBA e.s),.slice ap e.p.length cp,.slice al e.l.length cl] 71)).alloc (.cells #[.string ⟨#[]⟩,.int .i64 0,.string ⟨#[]⟩,.slice none 0 0,.slice none 0 0] 71)).heap[w.heap.size+1]? =some (.cells #[.string ⟨#[]⟩,.int .i64 0,.string ⟨#[]⟩,.slice none 0 0,.slice none 0 0] 71 (0,0)):=by
    have h:=heap_alloc_new (w.alloc (.cells #[.string (toBA e.op),.int .i64 e.n,.string (toBA e.s),.slice ap e.p.length cp,.slice al e.l.length cl] 71)) (.cells #[.string ⟨#[]⟩,.int .i64 0,.string ⟨#[]⟩,.slice none 0 0,.slice none 0 0] 71)
    simpa using h
   have hsA:((w.alloc (.cells #[.string (toBA e.op),.int .i64 e.n,.string (toBA e.s),.slice ap e.p.length cp,.slice al e.l.length cl] 71)).alloc (.cells #[.string ⟨#[]⟩,.int .i64 0,.string ⟨#[]⟩,.slice none 0 0,.slice none 0 0] 71)).heap.size=w.heap.size+1+1:=by simp
   have Hih:=Lib.hid ih;have Hrow:=Lib.hid hlr;have Hp:=Lib.hid hp;have Hbk:=Lib.hid (show e.bulk≤1100000 from hbulk)
   have hpb:strsBulk e.p≤1100000:=by omega
   clear ih hlr hp hx
   go_enter Tryz.func31,Tryz.ntmps31
   go_upto_region 1 with fail
   generalize (w.alloc (.cells #[.string (toBA e.op),.int .i64 e.n,.string (toBA e.s),.slice ap e.p.length cp,.slice al e.l.length cl] 71)).alloc (.cells #[.string ⟨#[]⟩,.int .i64 0,.string ⟨#[]⟩,.slice none 0 0,.slice none 0 0] 71)=wA at *
   have hbx0:w.heap.size < wA.heap.size:=by omega
   have HsA:=Lib.hid hsA
   clear hsA
   have q0:wA.cell? ⟨w.heap.size,0,none⟩=some (.string (toBA e.op)):=cell_of_blk (o:=0) hz1
   have q1:wA.cell? ⟨w.heap.size,1,none⟩=some (.int .i64 e.n):=cell_of_blk (o:=1) hz1
   have q2:wA.cell? ⟨w.heap.size,2,none⟩=some (.string (toBA e.s)):=cell_of_blk (o:=2) hz1
   have q3:wA.cell? ⟨w.heap.size,3,none⟩=some (.slice ap e.p.length cp):=cell_of_blk (o:=3) hz1
   have hcall:∀ W:World,Below wA.heap.size wA W→Calls Tryz.prog 16 #[.slice ap e.p.length cp] W fun en w'=>∃ a2 c2,en= .returned (.slice a2 e.p.length c2)∧Hid (StrsAt w' (fun b=>W.heap.size≤b∧b < w'.heap.size) (.slice a2 e.p.length c2) (e.p.map qn))∧Hid (Below W.heap.size W w')∧Hid (Below wA.heap.size wA w')∧
    w'.cell? ⟨w.heap.size,0,none⟩=some (.string (toBA e.op))∧w'.cell? ⟨w.heap.size,1,none⟩=some (.int .i64 e.n)∧w'.cell? ⟨w.heap.size,2,none⟩=some (.string (toBA e.s))∧w'.cell? ⟨w.heap.size,3,none⟩=some (.slice ap e.p.length cp)∧w.heap.size < w'.heap.size:=fun W hW=>by
    have hwW:Below w.heap.size w W:=hbA.trans (hW.mono (by have:=HsA.out;omega))
    refine (other_any e.p _ (Hp.out.lift hwW hwW.size) (fun b h=>h) hpb).mono ?_
    rintro en w' ⟨v',rfl,ho,hb⟩
    have hbw:=below_grow hW hW.size hb
    have hst:StrsAt w' (fun b=>W.heap.size≤b∧b < w'.heap.size) v' (e.p.map qn):=strs_own (by simpa [Function.comp_def] using ho)
    have Hst:=Lib.hid hst
    obtain ⟨a9,c9,rfl,-,-⟩:=hst
    rw [List.length_map] at Hst ⊢
    exact ⟨a9,c9,rfl,Hst,Lib.hid hb,Lib.hid hbw,(hbw.cell (p:=⟨w.heap.size,_,none⟩) hbx0).trans q0,(hbw.cell (p:=⟨w.heap.size,_,none⟩) hbx0).trans q1,(hbw.cell (p:=⟨w.heap.size,_,none⟩) hbx0).trans q2,(hbw.cell (p:=⟨w.heap.size,_,none⟩) hbx0).trans q3,by have:=hbw.size;omega⟩
   have Hcall:=Lib.hid hcall;have HbA:=Lib.hid hbA;have Hz1:=Lib.hid hz1;have Hz2:=Lib.hid hz2
   clear hcall hbA hz1 hz2
   go_cut [3] (fun p W=>OxBox wA e p W)
   case first=>
    have hall:∀ (W:World) (ob:Obj) (o':Nat),w.heap.size < W.heap.size→(W.alloc ob).cell? ⟨w.heap.size,o',none⟩=W.cell? ⟨w.heap.size,o',none⟩:=fun W ob o' h=>World.cell?_alloc_lt W ob ⟨w.heap.size,o',none⟩ h
    have hset:∀ (W:World) (o1 o2:Nat) (u:Value),(W.setCell ⟨wA.heap.size,o1,none⟩ u).cell? ⟨w.heap.size,o2,none⟩=W.cell? ⟨w.heap.size,o2,none⟩:=fun W o1 o2 u=>World.cell?_of_block (Below.heap_setCell W ⟨wA.heap.size,o1,none⟩ u w.heap.size (by show w.heap.size≠wA.heap.size;omega))
    go_region_held3 (fun w'=>w'.cell? ⟨w.heap.size,0,none⟩=some (.string (toBA e.op))∧w'.cell? ⟨w.heap.size,1,none⟩=some (.int .i64 e.n)∧w'.cell? ⟨w.heap.size,2,none⟩=some (.string (toBA e.s))∧w'.cell? ⟨w.heap.size,3,none⟩=some (.slice ap e.p.length cp))
     (first
       | go_keep
       | (go_split_ands
          refine ⟨?_,?_,?_,?_⟩
          · (rw [hall w2 _ _ (by omega)];assumption)
          · (rw [hall w2 _ _ (by omega)];assumption)
          · (rw [hall w2 _ _ (by omega)];assumption)
          · (rw [hall w2 _ _ (by omega)];assumption))
       | (go_split_ands
          refine ⟨?_,?_,?_,?_⟩
          · (simp only [hset];assumption)
          · (simp only [hset];assumption)
          · (simp only [hset];assumption)
          · (simp only [hset];assumption)))
     ((go_at_call 16;refine (Hcall.out _ ?_).mono ?_;(first | exact (Below.refl _ _).drew | exact ((Below.refl _ _).drew.alloc (Nat.le_refl _) _));rintro _ w2 ⟨a2,c2,rfl,hx2,hb2,hbw2,k0,k1,k2,k3,kl⟩;try (have hz:=(hb2.out.block wA.heap.size (by simp)).trans (heap_alloc_new wA.drew _);have fz0:=frozen_of_blk (o:=0) hz;have fz1:=frozen_of_blk (o:=1) hz;have fz2:=frozen_of_blk (o:=2) hz;have fz3:=frozen_of_blk (o:=3) hz;have fz4:=frozen_of_blk (o:=4) hz;have zl:=lt_of_blk hz;have cz0:=cell_of_blk (o:=0) hz;have cz1:=cell_of_blk (o:=1) hz;have cz2:=cell_of_blk (o:=2) hz;have cz3:=cell_of_blk (o:=3) hz;have cz4:=cell_of_blk (o:=4) hz)))
    · go_wp2_with fail
      go_meet
      case rel=>
       have hs2:=hbw2.out.size
       refine ⟨w2.heap.size,.slice a2 e.p.length c2,rfl,heap_alloc_new _ _,hbw2.out.alloc hs2 _,hs2,hx2.out.mono (fun b o hb=> ?_) fun b hb=>⟨hb.1,?_,?_⟩⟩
       · exact World.cell?_alloc_lt w2 _ ⟨b,o,none⟩ hb.2
       · have:=hb.2;simp;omega
       · have:=hb.2;omega
    · go_wp2_with fail
      go_meet
      case rel=>
       have hs2:=hbw2.out.size
       have hsc:∀ (W:World) (o1 o2:Nat) (u:Value) (b:Nat),b≠wA.heap.size→(W.setCell ⟨wA.heap.size,o1,none⟩ u).cell? ⟨b,o2,none⟩=W.cell? ⟨b,o2,none⟩:=fun W o1 o2 u b hb=>World.cell?_of_block (Below.heap_setCell W ⟨wA.heap.size,o1,none⟩ u b hb)
       refine ⟨wA.heap.size,.slice a2 e.p.length c2,rfl,?_,?_,Nat.le_refl _,hx2.out.mono (fun b o hb=> ?_) fun b hb=>⟨?_,?_,?_⟩⟩
       · have k0:=heap_setCell_at (o:=0) (v:= .string (toBA e.op)) hz
         have k1:=heap_setCell_at (o:=1) (v:= .int .i64 e.n) k0
         have k2:=heap_setCell_at (o:=2) (v:= .string (toBA e.s)) k1
         have k3:=heap_setCell_at (o:=3) (v:= .slice a2 e.p.length c2) k2
         have k4:=heap_setCell_at (o:=4) (v:= .slice none 0 0) k3
         exact k4
       · exact ((((hbw2.out.setCell (p:=⟨wA.heap.size,0,none⟩) (Nat.le_refl _) _).setCell (p:=⟨wA.heap.size,1,none⟩) (Nat.le_refl _) _).setCell (p:=⟨wA.heap.size,2,none⟩) (Nat.le_refl _) _).setCell (p:=⟨wA.heap.size,3,none⟩) (Nat.le_refl _) _).setCell (p:=⟨wA.heap.size,4,none⟩) (Nat.le_refl _) _
       · have h1:=hb.1
         have hne:b≠wA.heap.size:=by simp at h1;omega
         rw [hsc _ _ _ _ _ hne,hsc _ _ _ _ _ hne,hsc _ _ _ _ _ hne,hsc _ _ _ _ _ hne,hsc _ _ _ _ _ hne]
       · have h1:=hb.1;simp at h1;omega
       · have h1:=hb.2;simpa using h1
       · have h1:=hb.1;simp at h1;omega
   case rest=>
    obtain ⟨x,vpn,rfl,hblk,hbc,hxr,hps⟩:=hcut
    have c0:=(hbc.cell (p:=⟨w.heap.size,0,none⟩) hbx0).trans q0
    have c2:=(hbc.cell (p:=⟨w.heap.size,2,none⟩) hbx0).trans q2
    have f2:=frozen_of_blk (o:=2) hblk
    have z2:=cell_of_blk (o:=2) hblk
    have zl:=lt_of_blk hblk
    have Hblk:=Lib.hid hblk;have Hbc:=Lib.hid hbc;have Hps:=Lib.hid hps
    clear hblk hbc hps q0 q1 q2 q3 Hcall
    go_upto_if 17 with fail
    go_cut [] (fun W=>∃ vp2,W.heap[x]? =some (.cells #[.string (toBA e.op),.int .i64 e.n,.string (toBA e.ren.s),vp2,.slice none 0 0] 71 (0,0))∧Below wA.heap.size wA W∧StrsAt W (fun b=>wA.heap.size≤b∧b < W.heap.size∧b≠x) vp2 (e.p.map qn))
    case first=>
     by_cases h2:e.op=oName
     · have u1:((toBA e.op).toList == [110,97,109,101])=true:=by rw [m_toList];simp [h2,oName]
       have hren:e.ren.s=qn e.s:=by rw [Ex.ren_s,if_pos h2]
       have f1:∀ w,(Op.stringOp .add (toBA e.s) ⟨#[113]⟩).run Tryz.prog w= .ok (.string (toBA (qn e.s))) w:=fun w=>by
        rw [← toBA_q]
        exact run_string_add_sum w _ _ (by rw [toBA_len];show _+1≤_;omega)
       clear h2
       rw [u1]
       go_wp2_with fail
       go_meet
       case rel=>
        refine ⟨vpn,?_,Hbc.out.setCell (p:=⟨x,2,none⟩) hxr _,Hps.out.mono (fun b o hb=>World.cell?_of_block (Below.heap_setCell _ ⟨x,2,none⟩ _ b hb.2.2)) fun b hb=>⟨hb.1,by simpa using hb.2.1,hb.2.2⟩⟩
        rw [hren]
        exact heap_setCell_at (o:=2) (v:= .string (toBA (qn e.s))) Hblk.out
     · have u1:((toBA e.op).toList == [110,97,109,101])=false:=m_ne (a:=e.op) (b:= [110,97,109,101]) (fun h=>h2 h)
       have hren:e.ren.s=e.s:=by rw [Ex.ren_s,if_neg h2]
       clear h2
       rw [u1]
       go_wp2_with fail
       go_meet
       case rel=>exact ⟨vpn,by rw [hren];exact Hblk.out,Hbc.out,Hps.out⟩
    case rest=>
     obtain ⟨vp2,hblk3,hb3,hps3⟩:=hcut
     obtain ⟨ap8,cp8,rfl,-,-⟩:=id hps3
     have hz3:=(hb3.block w.heap.size hbx0).trans Hz1.out
     have hz4:=(hb3.block (w.heap.size+1) (by have:=HsA.out;omega)).trans Hz2.out
     have hb3w:=HbA.out.trans (hb3.mono (by have:=HsA.out;omega))
     have Hblk3:=Lib.hid hblk3;have Hb3:=Lib.hid hb3w;have Hps3:=Lib.hid hps3;have Hz3:=Lib.hid hz3;have Hz4:=Lib.hid hz4
     rw [List.length_map] at Hps3 Hblk3
     have hxw:w.heap.size+1 < x:=by have:=HsA.out;omega
     clear hblk3 hb3 hps3 hz3 hz4 hb3w c0 c2 f2 z2 zl Hblk Hbc Hps HbA Hz1 Hz2
     go_wp2_with fail
     have hx3l:=lt_of_blk Hblk3.out
     go_loopw [4] (fun t wr=>∃ (j:Nat) (vo:Value) (ps:List (Value × Value)),j≤e.l.length∧t= .int .i64 j∧RxSt (wc.setCell ⟨x,4,none⟩ vo) wr vo (exsRen (e.l.take j)) ps) (fun t _=>e.l.length - (intOf t).toNat)
     case atStart=>exact ⟨0,_,_,by omega,rfl,RxSt.start Hblk3.out rfl⟩
     case round=>
      obtain ⟨j,vo,ps,hj,rfl,hS⟩:=hrel
      have hbel:=hS.below
      have e1:(wc.setCell ⟨x,4,none⟩ vo).heap.size=wc.heap.size:=by simp
      have yx:=(hbel.block x (by rw [e1];exact hx3l)).trans (heap_setCell_at (o:=4) (v:=vo) Hblk3.out)
      have hn0:w.heap.size≠x:=by omega
      have hn1:w.heap.size+1≠x:=by omega
      have y0:=(hbel.block w.heap.size (by rw [e1];omega)).trans ((Below.heap_setCell wc ⟨x,4,none⟩ vo _ hn0).trans Hz3.out)
      have x4:wr.cell? ⟨x,4,none⟩=some vo:=cell_of_blk (o:=4) yx
      have b4:wr.cell? ⟨w.heap.size,4,none⟩=some (.slice al e.l.length cl):=cell_of_blk (o:=4) y0
      have hbw:Below w.heap.size w wr:=(Hb3.out.setCell (p:=⟨x,4,none⟩) (by show w.heap.size≤x;omega) vo).trans (hbel.mono (by rw [e1];exact Hb3.out.size))
      by_cases hjl:j < e.l.length
      · have t1:decide ((j:Int) < (e.l.length:Int))=true:=by simp;omega
        obtain ⟨b,o,rfl,hbB,hr⟩:=Hrow.out (by omega)
        obtain ⟨vp1,vl1,q0,q1,q2,q3,q4,hp1,hx1⟩:=(hr.at_ _ _ _ j hjl).open_
        have hbl':b < w.heap.size:=hbB
        have q0:=(hbw.cell (p:=⟨b,_,none⟩) hbl').trans q0
        have q1:=(hbw.cell (p:=⟨b,_,none⟩) hbl').trans q1
        have q2:=(hbw.cell (p:=⟨b,_,none⟩) hbl').trans q2
        have q3:=(hbw.cell (p:=⟨b,_,none⟩) hbl').trans q3
        have q4:=(hbw.cell (p:=⟨b,_,none⟩) hbl').trans q4
        have hm:=exs_mem (List.getElem_mem hjl)
        have hwr:=hbw.size
        have hbr:=hbel.size
        rw [e1] at hbr
        have hjm:j≤1100000:=by omega
        have j0:(0:Int)≤(j:Int):=Int.natCast_nonneg _
        have j1:(j:Int) < (e.l.length:Int):=by omega
        have hq:=hbw.trans ((Below.refl wr.heap.size wr).drew.mono hwr)
        have Hcall:=Lib.hid (Hih.out e.l[j] wr.drew vp1 vl1 (by omega) (by omega) (hp1.lift hq hq.size) (hx1.lift hq hq.size))
        have HS:=Lib.hid hS;have Hyx:=Lib.hid yx;have Hy0:=Lib.hid y0;have Hhb:=Lib.hid hbw
        have HJ:=Lib.hid (exsRen_take e.l j hjl)
        have hxr:x < wr.heap.size:=by omega
        have hown0:∀ g,vo.ownBlock=some g→wc.heap.size≤g∧g < wr.heap.size:=fun g hg=>by have:=HS.out.own.lt g hg;rw [e1] at this;exact this
        have Hown0:=Lib.hid hown0
        clear hp1 hx1 hm hr yx y0 hbw hbel hq hS hown0
        go_upto_region 7 with fail
        have hS0:(fun w':World=>w'.cell? ⟨x,4,none⟩=some vo∧w'.cell? ⟨w.heap.size,4,none⟩=some (.slice (some ⟨b,o,none⟩) e.l.length cl)∧w'.cell? ⟨b,o+j * 5,none⟩=some (.string (toBA e.l[j].op))∧w'.cell? ⟨b,o+j * 5+1,none⟩=some (.int .i64 e.l[j].n)∧w'.cell? ⟨b,o+j * 5+2,none⟩=some (.string (toBA e.l[j].s))∧w'.cell? ⟨b,o+j * 5+3,none⟩=some vp1∧w'.cell? ⟨b,o+j * 5+4,none⟩=some vl1) wr.drew:=⟨x4,b4,q0,q1,q2,q3,q4⟩
        refine wp_region_rest (z:=11) (S:=fun w':World=>w'.cell? ⟨x,4,none⟩=some vo∧w'.cell? ⟨w.heap.size,4,none⟩=some (.slice (some ⟨b,o,none⟩) e.l.length cl)∧w'.cell? ⟨b,o+j * 5,none⟩=some (.string (toBA e.l[j].op))∧w'.cell? ⟨b,o+j * 5+1,none⟩=some (.int .i64 e.l[j].n)∧w'.cell? ⟨b,o+j * 5+2,none⟩=some (.string (toBA e.l[j].s))∧w'.cell? ⟨b,o+j * 5+3,none⟩=some vp1∧w'.cell? ⟨b,o+j * 5+4,none⟩=some vl1) (by rfl) ?_
        change wpAnyR _ _ _ _ _ _ _ _ _ wr.drew
        refine wpAnyR_take (i:=0) [1,9,11] (v:= ?_) rfl (by kernel_rfl) (by kernel_rfl) (by kernel_rfl) (by kernel_rfl) (fun _ _ _ h=>h) (Or.inl ⟨by rfl,?_⟩) (by assumption) ?_
        rotate_left
        · intro w hSw
          (try dsimp only at hSw)
          go_simp
          first | done | with_reducible rfl
        try simp only [Act.put,List.setIfInBounds_toArray]
        refine wpAnyR_take (i:=1) [9,11] (v:= ?_) rfl (by kernel_rfl) (by kernel_rfl) (by kernel_rfl) (by kernel_rfl) (fun _ _ _ h=>h) (Or.inl ⟨by rfl,?_⟩) (by assumption) ?_
        rotate_left
        · intro w hSw
          (try dsimp only at hSw)
          go_simp
          first | done | with_reducible rfl
        try simp only [Act.put]
        refine wpAnyR_take (i:=2) [3,5,6,7,8,9,11] (v:= ?_) rfl (by kernel_rfl) (by kernel_rfl) (by kernel_rfl) (by kernel_rfl) (fun _ _ _ h=>h) (Or.inl ⟨by rfl,?_⟩) (by assumption) ?_
        rotate_left
        · intro w hSw
          (try dsimp only at hSw)
          go_simp
          first | done | with_reducible rfl
        try simp only [Act.put]
        refine wpAnyR_take (i:=3) [5,6,7,8,9,11] (v:= ?_) rfl (by kernel_rfl) (by kernel_rfl) (by kernel_rfl) (by kernel_rfl) (fun _ _ _ h=>h) (Or.inl ⟨by rfl,?_⟩) (by assumption) ?_
        rotate_left
        · intro w hSw
          (try dsimp only at hSw)
          go_simp
          first | done | with_reducible rfl
        try simp only [Act.put]
        refine wpAnyR_take (i:=4) [5,6,7,8,9,11] (v:= ?_) rfl (by kernel_rfl) (by kernel_rfl) (by kernel_rfl) (by kernel_rfl) (fun _ _ _ h=>h) (Or.inl ⟨by rfl,?_⟩) (by assumption) ?_
        rotate_left
        · intro w hSw
          (try dsimp only at hSw)
          go_simp
          first | done | with_reducible rfl
        try simp only [Act.put]
        refine wpAnyR_take (i:=5) [6,7,8,9,11] (v:= ?_) rfl (by kernel_rfl) (by kernel_rfl) (by kernel_rfl) (by kernel_rfl) (fun _ _ _ h=>h) (Or.inl ⟨by rfl,?_⟩) (by assumption) ?_
        rotate_left
        · intro w hSw
          (try dsimp only at hSw)
          go_simp
          first | done | with_reducible rfl
        try simp only [Act.put]
        refine wpAnyR_take (i:=6) [7,8,9,11] (v:= ?_) rfl (by kernel_rfl) (by kernel_rfl) (by kernel_rfl) (by kernel_rfl) (fun _ _ _ h=>h) (Or.inl ⟨by rfl,?_⟩) (by assumption) ?_
        rotate_left
        · intro w hSw
          (try dsimp only at hSw)
          go_simp
          first | done | with_reducible rfl
        try simp only [Act.put]
        refine wpAnyR_one (i:=7) (by kernel_rfl) rfl (fun K hK=> ?_)
        go_simp
        go_wp2_with (go_at_call 31;(with_reducible refine Hcall.out.mono ?_);rintro _ w5 ⟨hb5,vp2,vl2,rfl,hp2,hl2⟩)
        have hb5:Below wr.heap.size wr w5:=(Below.refl wr.heap.size wr).drew.trans hb5
        have hs5:=hb5.size
        have hq5:∀ k o',k < wr.heap.size→w5.cell? ⟨k,o',none⟩=wr.cell? ⟨k,o',none⟩:=fun k o' h=>hb5.cell (p:=⟨k,o',none⟩) h
        have hS1:(fun w':World=>w'.cell? ⟨x,4,none⟩=some vo∧w'.cell? ⟨w.heap.size,4,none⟩=some (.slice (some ⟨b,o,none⟩) e.l.length cl)∧w'.cell? ⟨b,o+j * 5,none⟩=some (.string (toBA e.l[j].op))∧w'.cell? ⟨b,o+j * 5+1,none⟩=some (.int .i64 e.l[j].n)∧w'.cell? ⟨b,o+j * 5+2,none⟩=some (.string (toBA e.l[j].s))∧w'.cell? ⟨b,o+j * 5+3,none⟩=some vp1∧w'.cell? ⟨b,o+j * 5+4,none⟩=some vl1) w5:=⟨(hq5 _ _ hxr).trans x4,(hq5 _ _ (by omega)).trans b4,(hq5 _ _ (by omega)).trans q0,(hq5 _ _ (by omega)).trans q1,(hq5 _ _ (by omega)).trans q2,(hq5 _ _ (by omega)).trans q3,(hq5 _ _ (by omega)).trans q4⟩
        have Hp2:=Lib.hid hp2;have Hl2:=Lib.hid hl2;have Hb5:=Lib.hid hb5
        obtain ⟨ap9,cp9,rfl,-,-⟩:=id hp2
        obtain ⟨al9,cl9,rfl,-,-⟩:=id hl2
        rw [List.length_map] at Hp2
        clear hp2 hl2 hb5 hS0 hq5
        refine hK.out _ _ (fun _=>hS1) ?_
        clear hK K
        refine wpAnyR_one (i:=8) (by kernel_rfl) rfl (fun K hK=> ?_)
        go_simp
        have hal5:∀ (ob:Obj) k o',k < w5.heap.size→(w5.alloc ob).cell? ⟨k,o',none⟩=w5.cell? ⟨k,o',none⟩:=fun ob k o' h=>World.cell?_alloc_lt w5 ob ⟨k,o',none⟩ h
        obtain ⟨s0,s1,s2,s3,s4,s5,s6⟩:=hS1
        have hS2:(fun w':World=>w'.cell? ⟨x,4,none⟩=some vo∧w'.cell? ⟨w.heap.size,4,none⟩=some (.slice (some ⟨b,o,none⟩) e.l.length cl)∧w'.cell? ⟨b,o+j * 5,none⟩=some (.string (toBA e.l[j].op))∧w'.cell? ⟨b,o+j * 5+1,none⟩=some (.int .i64 e.l[j].n)∧w'.cell? ⟨b,o+j * 5+2,none⟩=some (.string (toBA e.l[j].s))∧w'.cell? ⟨b,o+j * 5+3,none⟩=some vp1∧w'.cell? ⟨b,o+j * 5+4,none⟩=some vl1) (w5.alloc (.cells #[.string (toBA e.l[j].op),.int .i64 e.l[j].n,.string (toBA e.l[j].ren.s),.slice ap9 e.l[j].p.length cp9,.slice al9 (exsRen e.l[j].l).length cl9] 71)):=⟨(hal5 _ _ _ (by omega)).trans s0,(hal5 _ _ _ (by omega)).trans s1,(hal5 _ _ _ (by omega)).trans s2,(hal5 _ _ _ (by omega)).trans s3,(hal5 _ _ _ (by omega)).trans s4,(hal5 _ _ _ (by omega)).trans s5,(hal5 _ _ _ (by omega)).trans s6⟩
        clear hal5
        refine hK.out _ _ (fun _=>hS2) ?_
        clear hK K hS2
        refine wpAnyR_one (i:=9) (by kernel_rfl) rfl (fun K hK=> ?_)
        have hS5:=HS.out.grow Hb5.out
        have hle5:=hS5.below.size
        obtain ⟨i2,hi2,hy0,hy1,hy2⟩:=info_parts Tryz.infoREx
        have hln:(exsRen (e.l.take j)).length=j:=by rw [exsRen_len];simp;omega
        refine step_append_lies _ (by rfl) _ _ _ (by rfl) (wc.setCell ⟨x,4,none⟩ vo).heap.size 71 i2 _ 5 88 Tryz.underlying66 hi2 hy0 hy1 hy2 rfl (by decide) vo (exsRen (e.l.take j)).length (exCells (exsRen (e.l.take j)) ps) (by rfl) (hS5.own.alloc _) ⟨w5.heap.size,0,none⟩ 1 1 [.string (toBA e.l[j].op),.int .i64 e.l[j].n,.string (toBA e.l[j].ren.s),.slice ap9 e.l[j].p.length cp9,.slice al9 (exsRen e.l[j].l).length cl9] (by rfl) rfl (World.news_of_block (cs:= #[.string (toBA e.l[j].op),.int .i64 e.l[j].n,.string (toBA e.l[j].ren.s),.slice ap9 e.l[j].p.length cp9,.slice al9 (exsRen e.l[j].l).length cl9]) (heap_alloc_new w5 _)) (by simp [Value.oneCell']) (by decide) (by rw [hln];unfold maxLen;omega) (by rw [hln];omega) (by simp at hle5 ⊢;omega) (w5.heap.size+1) (by simp) ?_
        intro g6 cap6 w6 hown6 hgr6 hat6 hlt6
        have hq6:∀ k,k < wc.heap.size→w6.heap[k]? =w5.heap[k]? :=fun k hk=>(hgr6.block k (by simp;omega) (fun e9=>by have:=(Hown0.out k e9.symm).1;omega)).trans (Below.heap_alloc _ _ _ (by omega))
        have hc6:∀ k o',k < wc.heap.size→w6.cell? ⟨k,o',none⟩=w5.cell? ⟨k,o',none⟩:=fun k o' hk=>World.cell?_of_block (hq6 k hk)
        have hbw6:w.heap.size < wc.heap.size:=by omega
        have hS3:(fun w':World=>w'.cell? ⟨x,4,none⟩=some vo∧w'.cell? ⟨w.heap.size,4,none⟩=some (.slice (some ⟨b,o,none⟩) e.l.length cl)∧w'.cell? ⟨b,o+j * 5,none⟩=some (.string (toBA e.l[j].op))∧w'.cell? ⟨b,o+j * 5+1,none⟩=some (.int .i64 e.l[j].n)∧w'.cell? ⟨b,o+j * 5+2,none⟩=some (.string (toBA e.l[j].s))∧w'.cell? ⟨b,o+j * 5+3,none⟩=some vp1∧w'.cell? ⟨b,o+j * 5+4,none⟩=some vl1) w6:=⟨(hc6 _ _ hx3l).trans s0,(hc6 _ _ hbw6).trans s1,(hc6 _ _ (by omega)).trans s2,(hc6 _ _ (by omega)).trans s3,(hc6 _ _ (by omega)).trans s4,(hc6 _ _ (by omega)).trans s5,(hc6 _ _ (by omega)).trans s6⟩
        have hG5:∀ k,wr.heap.size≤k∧k < w5.heap.size→Gd (wc.setCell ⟨x,4,none⟩ vo).heap.size w5 vo k:=fun k hk=>⟨by rw [e1];omega,hk.2,fun e9=>by have:=(Hown0.out k e9).2;omega⟩
        have hR6:=hS5.put e.l[j].ren _ _ (by rw [Ex.ren_p];exact Hp2.out.mono (fun _ _ _=>rfl) hG5) (by rw [Ex.ren_l,← exsRen_map];exact Hl2.out.mono (fun _ _ _=>rfl) hG5) (by rw [Ex.ren_op,Ex.ren_n];exact hown6) hgr6 hat6
        have HR7:=Lib.hid (RxSt.storeG Hblk3.out hR6)
        have hy6:=(hq6 x hx3l).trans ((Hb5.out.block x hxr).trans Hyx.out)
        have z4:=cell_of_blk (o:=4) hy6
        have fz4:=frozen_of_blk (o:=4) hy6
        have zl4:=lt_of_blk hy6
        have z4:w6.cell? ⟨x,4,none⟩=some vo:=z4
        clear hown6 hgr6 hat6 hR6 hS5 hG5 hle5 hy6 s0 s1 s2 s3 s4 s5 s6 hq6 hc6 hi2 hy0 hy1 hy2
        rw [hln] at HR7
        simp only [hln]
        refine hK.out _ _ (fun _=>hS3) ?_
        clear hK K
        refine wpAnyR_take (i:=10) [11] (v:= ?_) rfl (by kernel_rfl) (by kernel_rfl) (by kernel_rfl) (by kernel_rfl) (fun _ _ _ h=>h) (Or.inl ⟨by rfl,?_⟩) (by assumption) ?_
        rotate_left
        · intro w hSw
          (try dsimp only at hSw)
          go_simp
          first | done | with_reducible rfl
        try simp only [Act.put,List.setIfInBounds_toArray]
        refine wpAnyR_one (i:=11) (by kernel_rfl) rfl (fun K hK=> ?_)
        go_simp
        refine hK.out _ _ (fun h=>absurd h (by decide)) ?_
        clear hK K hS3
        refine wpAnyR_done (by kernel_rfl) ?_ _
        go_wp2_with fail
        go_roundw
        case rel=>exact ⟨j+1,_,_,by omega,by go_num,by rw [HJ.out];exact HR7.out⟩
        case measure=>simp [intOf];omega
      · have t1:decide ((j:Int) < (e.l.length:Int))=false:=by simp;omega
        obtain rfl:j=e.l.length:=by omega
        rw [List.take_of_length_le (Nat.le_refl _)] at hS
        obtain ⟨av9,cv9,rfl,-,-⟩:=id hS.fin
        have y1:=(hbel.block (w.heap.size+1) (by rw [e1];omega)).trans ((Below.heap_setCell wc ⟨x,4,none⟩ _ _ hn1).trans Hz4.out)
        have a0:wr.cell? ⟨w.heap.size+1,0,none⟩=some (.string ⟨#[]⟩):=cell_of_blk (o:=0) y1
        have a1:wr.cell? ⟨w.heap.size+1,1,none⟩=some (.int .i64 0):=cell_of_blk (o:=1) y1
        have a2:wr.cell? ⟨w.heap.size+1,2,none⟩=some (.string ⟨#[]⟩):=cell_of_blk (o:=2) y1
        have a3:wr.cell? ⟨w.heap.size+1,3,none⟩=some (.slice none 0 0):=cell_of_blk (o:=3) y1
        have a4:wr.cell? ⟨w.heap.size+1,4,none⟩=some (.slice none 0 0):=cell_of_blk (o:=4) y1
        have fa0:=frozen_of_blk (o:=0) y1
        have fa1:=frozen_of_blk (o:=1) y1
        have fa2:=frozen_of_blk (o:=2) y1
        have fa3:=frozen_of_blk (o:=3) y1
        have fa4:=frozen_of_blk (o:=4) y1
        have hal:=lt_of_blk y1
        have x0:wr.cell? ⟨x,0,none⟩=some (.string (toBA e.op)):=cell_of_blk (o:=0) yx
        have x1:wr.cell? ⟨x,1,none⟩=some (.int .i64 e.n):=cell_of_blk (o:=1) yx
        have x2:wr.cell? ⟨x,2,none⟩=some (.string (toBA e.ren.s)):=cell_of_blk (o:=2) yx
        have x3:wr.cell? ⟨x,3,none⟩=some (.slice ap8 e.p.length cp8):=cell_of_blk (o:=3) yx
        have k0:=heap_setCell_at (o:=0) (v:= .string (toBA e.op)) y1
        have k1:=heap_setCell_at (o:=1) (v:= .int .i64 e.n) k0
        have k2:=heap_setCell_at (o:=2) (v:= .string (toBA e.ren.s)) k1
        have k3:=heap_setCell_at (o:=3) (v:= .slice ap8 e.p.length cp8) k2
        have k4:=heap_setCell_at (o:=4) (v:= .slice av9 (exsRen e.l).length cv9) k3
        have HF:=Lib.hid hS.fin;have Hhb:=Lib.hid hbw;have Hb4:=Lib.hid hbel;have Hk4:=Lib.hid k4
        clear hS hbw hbel k0 k1 k2 k3 k4 y1 y0 yx
        go_wp2_with fail
        have hk4:=Hk4.out
        have e0:=cell_of_blk (o:=0) hk4
        have e1':=cell_of_blk (o:=1) hk4
        have e2:=cell_of_blk (o:=2) hk4
        have e3:=cell_of_blk (o:=3) hk4
        have e4:=cell_of_blk (o:=4) hk4
        refine bodyPost_ret (v:= .agg #[.string (toBA e.op),.int .i64 e.n,.string (toBA e.ren.s),.slice ap8 e.p.length cp8,.slice av9 (exsRen e.l).length cv9]) ?_ rfl ?_
        · simp [results,Tryz.results31,go_sem,e0,e1',e2,e3,e4]
        · have hAs:=HsA.out
          have hb4:=Hb4.out
          have hsz:=hb4.size
          rw [e1] at hsz
          have hset:∀ (k o':Nat),k≠w.heap.size+1→(((((wr.setCell ⟨w.heap.size+1,0,none⟩ (.string (toBA e.op))).setCell ⟨w.heap.size+1,1,none⟩ (.int .i64 e.n)).setCell ⟨w.heap.size+1,2,none⟩ (.string (toBA e.ren.s))).setCell ⟨w.heap.size+1,3,none⟩ (.slice ap8 e.p.length cp8)).setCell ⟨w.heap.size+1,4,none⟩ (.slice av9 (exsRen e.l).length cv9)).cell? ⟨k,o',none⟩=wr.cell? ⟨k,o',none⟩:=fun k o' hk=>by
           refine World.cell?_of_block ?_
           dsimp only
           rw [Below.heap_setCell _ _ _ _ hk,Below.heap_setCell _ _ _ _ hk,Below.heap_setCell _ _ _ _ hk,Below.heap_setCell _ _ _ _ hk,Below.heap_setCell _ _ _ _ hk]
          refine ⟨((((Hhb.out.setCell (p:=⟨w.heap.size+1,0,none⟩) (Nat.le_succ _) _).setCell (p:=⟨w.heap.size+1,1,none⟩) (Nat.le_succ _) _).setCell (p:=⟨w.heap.size+1,2,none⟩) (Nat.le_succ _) _).setCell (p:=⟨w.heap.size+1,3,none⟩) (Nat.le_succ _) _).setCell (p:=⟨w.heap.size+1,4,none⟩) (Nat.le_succ _) _,_,_,rfl,Hps3.out.mono (fun k o' hk=> ?_) (fun k hk=> ?_),HF.out.mono (fun k o' hk=> ?_) fun k hk=> ?_⟩
          · rw [hset k o' (by have:=hk.1;omega)]
            rw [hb4.cell (p:=⟨k,o',none⟩) (by rw [e1];exact hk.2.1)]
            exact World.cell?_of_block (Below.heap_setCell wc ⟨x,4,none⟩ _ k hk.2.2)
          · exact ⟨by have:=hk.1;omega,by have:=hk.2.1;simp;omega⟩
          · exact hset k o' (by have:=hk.1;rw [e1] at this;omega)
          · exact ⟨by have:=hk.1;rw [e1] at this;omega,by have:=hk.2;simpa using this⟩
end Go.Proofs.YtdoaeapahgmfoaaGreatDoor

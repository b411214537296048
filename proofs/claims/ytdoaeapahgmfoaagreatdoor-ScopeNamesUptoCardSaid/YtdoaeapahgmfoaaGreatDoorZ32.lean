/- finder.said: the walk. -/
import Derived.Test.YtdoaeapahgmfoaaGreatDoorZ31
namespace Go.Proofs.YtdoaeapahgmfoaaGreatDoor
open Go.RowKit
def saidB (d:Fd) (i:Nat) (n:List UInt8):Bool:=((d.fr.getD i dfr).row 0).contains n || ((d.fr.getD i dfr).row 1).contains n || ((d.fr.getD i dfr).row 2).contains n || ((d.fr.getD i dfr).row 3).contains n
def saidS (d:Fd) (i:Nat) (g:Bool) (n:List UInt8):Fd:=if g then (d.failIf (saidB d i n)).set i (fun x=> { x with glob:=x.glob ++ [n] }) else (d.failIf (saidB d i n)).set i (fun x=> { x with nonl:=x.nonl ++ [n] })
theorem saidF_snoc (d:Fd) (i:Nat) (g:Bool) (ps:List (List UInt8)) (j:Nat) (hj:j < ps.length):saidF d i g (ps.take (j+1))=saidS (saidF d i g (ps.take j)) i g ps[j]:=by
 rw [List.take_succ_eq_append_getElem hj]
 unfold saidF
 rw [List.foldl_append]
 rfl
theorem saidS_len (d:Fd) (i:Nat) (g:Bool) (n:List UInt8):(saidS d i g n).fr.length=d.fr.length:=by unfold saidS Fd.set;split <;> simp [fail_fr]
theorem saidF_len (i:Nat) (g:Bool):∀ (ps:List (List UInt8)) (d:Fd),(saidF d i g ps).fr.length=d.fr.length
 | [],_=>rfl
 | n :: r,d=>(saidF_len i g r (saidS d i g n)).trans (saidS_len d i g n)
theorem fr_getD_fail (d:Fd) (b:Bool) (i:Nat):(d.failIf b).fr.getD i dfr=d.fr.getD i dfr:=by rw [fail_fr]
set_option maxRecDepth 100000 in
set_option maxHeartbeats 20000000 in
theorem said_glob {w:World} {x B m:Nat} {c:Clr} {d:Fd} {vl vb:Value} {ys:List Nat} {vss:Nat→Nat→Value} (h:FdC w x c B d m vl vb ys vss) (hm:m=d.fr.length) (i:Nat) (hi':i < m) (s:Stm) (vp:Value) (a1 a2 a3:Option Addr) (n1 n2 n3 k1 k2 k3:Nat)
 (hp:StrsAt w (Un w c) vp s.p) (hpl:s.p.length≤2000000) (hkd:((toBA s.kind).toList == [103,108,111,98,97,108])=true) {N:Nat} (hN:Sm d N) (hN2:N≤30000000) (hB:B≤w.heap.size):
 Calls Tryz.prog 110 #[.pointer (some ⟨x,0,none⟩),.int .i64 (i:Int),.agg #[.string (toBA s.kind),.string (toBA s.name),vp,.slice a1 n1 k1,.slice a2 n2 k2,.slice a3 n3 k3]] w (FdPost w x B c (saidF d i true s.p) (.tuple #[])):=by
 obtain ⟨ap,cp,rfl,hcap,hps⟩:=hp
 obtain ⟨g,cap,nm,Y,hY,rfl,hcap2,cg,hblk⟩:=h.look hi'
 obtain ⟨i0,hi,hz0,hz1,hz2⟩:=info_parts Tryz.infoStrg
 have hBA:=(Below.refl w.heap.size w).alloc (Nat.le_refl _) (.cells #[.string (toBA s.kind),.string (toBA s.name),.slice ap s.p.length cp,.slice a1 n1 k1,.slice a2 n2 k2,.slice a3 n3 k3] 82)
 obtain ⟨hFA,sFA⟩:=h.grow hBA
 have hbx:Un (w.alloc (.cells #[.string (toBA s.kind),.string (toBA s.name),.slice ap s.p.length cp,.slice a1 n1 k1,.slice a2 n2 k2,.slice a3 n3 k3] 82)) c w.heap.size∧(w.alloc (.cells #[.string (toBA s.kind),.string (toBA s.name),.slice ap s.p.length cp,.slice a1 n1 k1,.slice a2 n2 k2,.slice a3 n3 k3] 82)).cell? ⟨w.heap.size,0,none⟩=some (.string (toBA s.kind))∧(w.alloc (.cells #[.string (toBA s.kind),.string (toBA s.name),.slice ap s.p.length cp,.slice a1 n1 k1,.slice a2 n2 k2,.slice a3 n3 k3] 82)).cell? ⟨w.heap.size,2,none⟩=some (.slice ap s.p.length cp):=⟨⟨by simp,h.fresh (Nat.le_refl _)⟩,by rw [cell_of_blk (heap_alloc_new w _)];rfl,by rw [cell_of_blk (heap_alloc_new w _)];rfl⟩
 have c0:(w.alloc (.cells #[.string (toBA s.kind),.string (toBA s.name),.slice ap s.p.length cp,.slice a1 n1 k1,.slice a2 n2 k2,.slice a3 n3 k3] 82)).cell? ⟨x,0,none⟩=some (.slice (some ⟨g,0,none⟩) m cap):=cell_of_blk (o:=0) hFA.blk
 have cgA:(w.alloc (.cells #[.string (toBA s.kind),.string (toBA s.name),.slice ap s.p.length cp,.slice a1 n1 k1,.slice a2 n2 k2,.slice a3 n3 k3] 82)).cell? ⟨g,i,none⟩=some (.pointer (some ⟨Y,0,none⟩)):=by
  obtain ⟨g',cap',nm',Y',hY',hg',_,cg',_⟩:=hFA.look hi'
  injection hg' with e1 _ e3
  injection e1 with e1
  injection e1 with e1 _ _
  subst e1
  rw [cg',hY',← hY]
 have hx:=hFA.x_lt
 have hszA:=sFA.size
 have i1:(0:Int)≤(i:Int):=Int.natCast_nonneg _
 have i2:(i:Int) < (m:Int):=by omega
 have hNf:=hN.fr
 have hid:i < d.fr.length:=by omega
 have hm2:m≤30000000:=by omega
 have k2':=hbx.2.2
 have k0':=hbx.2.1
 have hpsA:0 < s.p.length→∃ b o,ap=some ⟨b,o,none⟩∧Un w c b∧∀ j (hj:j < s.p.length),w.cell? ⟨b,o+j,none⟩=some (.string (toBA s.p[j])):=hps
 have HN:=Lib.hid hN;have Hps:=Lib.hid hpsA;have Hm:=Lib.hid hm;have HY:=Lib.hid hY;have Hbx:=Lib.hid hbx;have HFA:=Lib.hid hFA;have SFA:=Lib.hid sFA;have Hid0:=Lib.hid hid
 clear hps hpsA hN h hm hY hbx hFA sFA hblk cg hBA hNf
 generalize hps':s.p=ps at *
 clear hps'
 go_enter Tryz.func110,Tryz.ntmps110
 go_wp2_with fail
 generalize w.alloc (.cells #[.string (toBA s.kind),.string (toBA s.name),.slice ap ps.length cp,.slice a1 n1 k1,.slice a2 n2 k2,.slice a3 n3 k3] 82)=W at HFA SFA Hbx hx hszA c0 cgA k2' k0' ⊢
 generalize hbxn:w.heap.size=bx at Hbx k2' k0' ⊢
 clear hbxn
 go_loopw [8,19] (fun _ k wr=>∃ (j:Nat) (c1:Clr) (vb1:Value) (vss1:Nat→Nat→Value),j≤ps.length∧k= .int .i64 j∧FdC wr x c1 B (saidF d i true (ps.take j)) m (.slice (some ⟨g,0,none⟩) m cap) vb1 ys vss1∧FStp c c1 W wr) (fun _ k _=>ps.length - (intOf k).toNat)
 case atStart=>exact ⟨0,_,_,_,by omega,rfl,HFA.out,FStp.refl _ _⟩
 case round=>
  obtain ⟨j,c1,vb1,vss1,hj,rfl,hF,sF⟩:=hrel
  by_cases hjl:j < ps.length
  · have t1:decide ((j:Int) < (ps.length:Int))=true:=by simp;omega
    obtain ⟨b,o,rfl,hbU,hz⟩:=Hps.out (by omega)
    have q:wr.cell? ⟨b,o+j,none⟩=some (.string (toBA ps[j])):=((sF.cell (SFA.out.un hbU)).trans (SFA.out.cell hbU)).trans (hz j hjl)
    have hid1:i < (saidF d i true (ps.take j)).fr.length:=by rw [saidF_len];exact Hid0.out
    have hFn:=hF.frs i hid1
    obtain ⟨nm1,hblk1⟩:=hFn.blk
    rw [← HY.out] at hblk1
    have y6:wr.cell? ⟨Y,6,none⟩=some (vss1 i 0):=by rw [cell_of_blk hblk1];rfl
    have y7:wr.cell? ⟨Y,7,none⟩=some (vss1 i 1):=by rw [cell_of_blk hblk1];rfl
    have y8:wr.cell? ⟨Y,8,none⟩=some (vss1 i 2):=by rw [cell_of_blk hblk1];rfl
    have y9:wr.cell? ⟨Y,9,none⟩=some (vss1 i 3):=by rw [cell_of_blk hblk1];rfl
    have hsm:Sm (saidF d i true (ps.take j)) (N+2 * ps.length):=(sm_said i true (ps.take j) N d HN.out).mono (by simp;omega)
    have hszr:w.heap.size≤wr.heap.size:=by have:=SFA.out.size;have:=sF.size;omega
    have hBr:B≤wr.heap.size:=by omega
    have Q0:=has_any _ (vss1 i 0) ps[j] _ (own_strs (hFn.own 0 (by decide))) (by have:=hsm.row i 0;omega)
    have Q1:=has_any _ (vss1 i 1) ps[j] _ (own_strs (hFn.own 1 (by decide))) (by have:=hsm.row i 1;omega)
    have Q2:=has_any _ (vss1 i 2) ps[j] _ (own_strs (hFn.own 2 (by decide))) (by have:=hsm.row i 2;omega)
    have Q3:=has_any _ (vss1 i 3) ps[j] _ (own_strs (hFn.own 3 (by decide))) (by have:=hsm.row i 3;omega)
    have HF:=Lib.hid hF;have HS:=Lib.hid sF;have Hsm:=Lib.hid hsm;have Hid1:=Lib.hid hid1
    clear hF sF hsm hid1 hFn hblk1 hz hszr
    rcases hq0:(((saidF d i true (ps.take j)).fr.getD i dfr).row 0).contains ps[j] with _ | _
    · rcases hq1:(((saidF d i true (ps.take j)).fr.getD i dfr).row 1).contains ps[j] with _ | _
      · rcases hq2:(((saidF d i true (ps.take j)).fr.getD i dfr).row 2).contains ps[j] with _ | _
        · rcases hq3:(((saidF d i true (ps.take j)).fr.getD i dfr).row 3).contains ps[j] with _ | _
          · skip
            rw [hq0] at Q0
            rw [hq1] at Q1
            rw [hq2] at Q2
            rw [hq3] at Q3
            have Hb:Hid (saidB (saidF d i true (ps.take j)) i ps[j]=false):=Lib.hid (by unfold saidB;rw [hq0,hq1,hq2,hq3];simp)
            have HQ0:=Lib.hid Q0
            have HQ1:=Lib.hid Q1
            have HQ2:=Lib.hid Q2
            have HQ3:=Lib.hid Q3
            clear Q0 Q1 Q2 Q3 hq0 hq1 hq2 hq3
            go_wp2_with fail
            refine HQ0.out.mono ?_
            rintro _ w2 ⟨rfl,rfl⟩
            go_wp2_with fail
            refine HQ1.out.mono ?_
            rintro _ w2 ⟨rfl,rfl⟩
            go_wp2_with fail
            refine HQ2.out.mono ?_
            rintro _ w2 ⟨rfl,rfl⟩
            go_wp2_with fail
            refine HQ3.out.mono ?_
            rintro _ w2 ⟨rfl,rfl⟩
            clear HQ0 HQ1 HQ2 HQ3
            have H2:Hid (FdC wr x c1 B ((saidF d i true (ps.take j)).failIf false) m (.slice (some ⟨g,0,none⟩) m cap) vb1 ys vss1):=Lib.hid HF.out
            have S2:Hid (FStp c c1 W wr):=HS
            have hn2:i < ((saidF d i true (ps.take j)).failIf false).fr.length:=by rw [fail_fr];exact Hid1.out
            have hF2:=H2.out.frs i hn2
            rw [fr_getD_fail] at hF2
            obtain ⟨nm2,hblk⟩:=hF2.blk
            rw [← HY.out] at hblk
            have yk:wr.cell? ⟨Y,8,none⟩=some (vss1 i 2):=by rw [cell_of_blk hblk];rfl
            have hown0:=hF2.own 2 (by decide)
            have hrl:=Hsm.out.row i 2
            generalize hrow:((saidF d i true (ps.take j)).fr.getD i dfr).row 2=R at hown0 hrl
            have Hrow:=Lib.hid hrow
            have hfar:∀ w1,wr.grownBy w1 (vss1 i 2).ownBlock→w1.heap[Y]? =wr.heap[Y]? :=fun w1 hg=>H2.out.y_far HY.out hn2 (row:=(vss1 i 2).ownBlock) (fun b e=>⟨_,hF2.cr 2 (by decide) b e,by simp⟩) hg
            have hboxc:wr.cell? ⟨bx,0,none⟩=some (.string (toBA s.kind)):=(S2.out.cell Hbx.out.1).trans Hbx.out.2.1
            have Hfar:=Lib.hid hfar;have Hblk:=Lib.hid hblk;have Hn2:=Lib.hid hn2
            have hs2l:=S2.out.size
            have hrl2:R.length≤50000000:=by omega
            clear hfar hblk hF2 hn2 hrow
            go_wp2_with (at_builtin;refine wpList_append_lies (wr.alloc (.cells #[.string (toBA ps[j])] 9)) rfl (.tmp 62) (.tmp 64) 36 rfl B 9 i0 _ 1 16 Tryz.underlying36 hi hz0 hz1 hz2 rfl (by decide) (vss1 i 2) R.length (strCs R) rfl (hown0.alloc _) ⟨wr.heap.size,0,none⟩ 1 1 [.string (toBA ps[j])] rfl rfl (World.news_of_block (cs:= #[.string (toBA ps[j])]) (heap_alloc_new wr _)) (by simp [Value.oneCell']) (by decide) (by unfold maxLen;omega) (by omega) (by simp;omega) (wr.heap.size+1) (by simp) ?_;intro g5 cap5 w5 hown5 hg5 hat5 hlt5;have hb5:=(Hfar.out w5 (grown_alloc hg5)).trans Hblk.out;have z6:=(cell_of_blk (o:=8) hb5);have f6:=frozen_of_blk (o:=8) hb5;have zl:=lt_of_blk hb5)
            have hs2:=H2.out.setRow i 2 HY.out Hn2.out (by decide) (.slice (some ⟨g5,0,none⟩) (R.length+1) cap5) (fun x=> { x with glob:=x.glob ++ [ps[j]] }) (grown_alloc hg5) (by
             rw [fr_getD_fail]
             show w5.ownsRow B 9 1 _ (((saidF d i true (ps.take j)).fr.getD i dfr).row 2 ++ [ps[j]]).length (strCs (((saidF d i true (ps.take j)).fr.getD i dfr).row 2 ++ [ps[j]]))
             rw [Hrow.out,strCs_snoc,List.length_append];exact hown5) (by
             rcases hat5 with e | e
             · exact .inl e.symm
             · exact .inr fun b hb=>by
                have:g5=b:=Option.some.inj hb
                omega) ⟨rfl,rfl,rfl⟩ (fun j hj hne=>match j,hj with
               | 0,_=>by first | rfl | exact absurd rfl hne
               | 1,_=>by first | rfl | exact absurd rfl hne
               | 2,_=>by first | rfl | exact absurd rfl hne
               | 3,_=>by first | rfl | exact absurd rfl hne)
            have hstep:saidF d i true (ps.take (j+1))=((saidF d i true (ps.take j)).failIf false).set i (fun x=> { x with glob:=x.glob ++ [ps[j]] }):=by
             rw [saidF_snoc d i true ps j hjl]
             unfold saidS
             rw [Hb.out]
             rfl
            rw [← hstep] at hs2
            have Hs2:=Lib.hid hs2
            clear hs2 hown5 hg5 hat5 hb5 z6 f6 zl hown0 yk hstep hboxc
            go_roundw
            case rel=>exact ⟨j+1,_,_,_,by omega,by go_num,Hs2.out.1,S2.out.trans Hs2.out.2⟩
            case measure=>simp [intOf];omega
          · skip
            rw [hq0] at Q0
            rw [hq1] at Q1
            rw [hq2] at Q2
            rw [hq3] at Q3
            have Hb:Hid (saidB (saidF d i true (ps.take j)) i ps[j]=true):=Lib.hid (by unfold saidB;rw [hq0,hq1,hq2,hq3];simp)
            have HQ0:=Lib.hid Q0
            have HQ1:=Lib.hid Q1
            have HQ2:=Lib.hid Q2
            have HQ3:=Lib.hid Q3
            clear Q0 Q1 Q2 Q3 hq0 hq1 hq2 hq3
            go_wp2_with fail
            refine HQ0.out.mono ?_
            rintro _ w2 ⟨rfl,rfl⟩
            go_wp2_with fail
            refine HQ1.out.mono ?_
            rintro _ w2 ⟨rfl,rfl⟩
            go_wp2_with fail
            refine HQ2.out.mono ?_
            rintro _ w2 ⟨rfl,rfl⟩
            go_wp2_with fail
            refine HQ3.out.mono ?_
            rintro _ w2 ⟨rfl,rfl⟩
            clear HQ0 HQ1 HQ2 HQ3
            have hcall:=fail_any HF.out (by have:=Hsm.out.bad;omega) hBr
            have Hcall:=Lib.hid hcall
            clear hcall
            go_wp2_with fail
            refine Hcall.out.mono ?_
            rintro _ w2 ⟨rfl,c2,vb2,hF2',sF2'⟩
            have H2:Hid (FdC w2 x c2 B ((saidF d i true (ps.take j)).failIf true) m (.slice (some ⟨g,0,none⟩) m cap) vb2 ys vss1):=Lib.hid hF2'
            have S2:Hid (FStp c c2 W w2):=Lib.hid (HS.out.trans sF2')
            have hBw2:B≤w2.heap.size:=by have:=S2.out.size;omega
            clear q Hcall hF2' sF2' HF HS hBr
            have hn2:i < ((saidF d i true (ps.take j)).failIf true).fr.length:=by rw [fail_fr];exact Hid1.out
            have hF2:=H2.out.frs i hn2
            rw [fr_getD_fail] at hF2
            obtain ⟨nm2,hblk⟩:=hF2.blk
            rw [← HY.out] at hblk
            have yk:w2.cell? ⟨Y,8,none⟩=some (vss1 i 2):=by rw [cell_of_blk hblk];rfl
            have hown0:=hF2.own 2 (by decide)
            have hrl:=Hsm.out.row i 2
            generalize hrow:((saidF d i true (ps.take j)).fr.getD i dfr).row 2=R at hown0 hrl
            have Hrow:=Lib.hid hrow
            have hfar:∀ w1,w2.grownBy w1 (vss1 i 2).ownBlock→w1.heap[Y]? =w2.heap[Y]? :=fun w1 hg=>H2.out.y_far HY.out hn2 (row:=(vss1 i 2).ownBlock) (fun b e=>⟨_,hF2.cr 2 (by decide) b e,by simp⟩) hg
            have hboxc:w2.cell? ⟨bx,0,none⟩=some (.string (toBA s.kind)):=(S2.out.cell Hbx.out.1).trans Hbx.out.2.1
            have Hfar:=Lib.hid hfar;have Hblk:=Lib.hid hblk;have Hn2:=Lib.hid hn2
            have hs2l:=S2.out.size
            have hrl2:R.length≤50000000:=by omega
            clear hfar hblk hF2 hn2 hrow
            go_wp2_with (at_builtin;refine wpList_append_lies (w2.alloc (.cells #[.string (toBA ps[j])] 9)) rfl (.tmp 62) (.tmp 64) 36 rfl B 9 i0 _ 1 16 Tryz.underlying36 hi hz0 hz1 hz2 rfl (by decide) (vss1 i 2) R.length (strCs R) rfl (hown0.alloc _) ⟨w2.heap.size,0,none⟩ 1 1 [.string (toBA ps[j])] rfl rfl (World.news_of_block (cs:= #[.string (toBA ps[j])]) (heap_alloc_new w2 _)) (by simp [Value.oneCell']) (by decide) (by unfold maxLen;omega) (by omega) (by simp;omega) (w2.heap.size+1) (by simp) ?_;intro g5 cap5 w5 hown5 hg5 hat5 hlt5;have hb5:=(Hfar.out w5 (grown_alloc hg5)).trans Hblk.out;have z6:=(cell_of_blk (o:=8) hb5);have f6:=frozen_of_blk (o:=8) hb5;have zl:=lt_of_blk hb5)
            have hs2:=H2.out.setRow i 2 HY.out Hn2.out (by decide) (.slice (some ⟨g5,0,none⟩) (R.length+1) cap5) (fun x=> { x with glob:=x.glob ++ [ps[j]] }) (grown_alloc hg5) (by
             rw [fr_getD_fail]
             show w5.ownsRow B 9 1 _ (((saidF d i true (ps.take j)).fr.getD i dfr).row 2 ++ [ps[j]]).length (strCs (((saidF d i true (ps.take j)).fr.getD i dfr).row 2 ++ [ps[j]]))
             rw [Hrow.out,strCs_snoc,List.length_append];exact hown5) (by
             rcases hat5 with e | e
             · exact .inl e.symm
             · exact .inr fun b hb=>by
                have:g5=b:=Option.some.inj hb
                omega) ⟨rfl,rfl,rfl⟩ (fun j hj hne=>match j,hj with
               | 0,_=>by first | rfl | exact absurd rfl hne
               | 1,_=>by first | rfl | exact absurd rfl hne
               | 2,_=>by first | rfl | exact absurd rfl hne
               | 3,_=>by first | rfl | exact absurd rfl hne)
            have hstep:saidF d i true (ps.take (j+1))=((saidF d i true (ps.take j)).failIf true).set i (fun x=> { x with glob:=x.glob ++ [ps[j]] }):=by
             rw [saidF_snoc d i true ps j hjl]
             unfold saidS
             rw [Hb.out]
             rfl
            rw [← hstep] at hs2
            have Hs2:=Lib.hid hs2
            clear hs2 hown5 hg5 hat5 hb5 z6 f6 zl hown0 yk hstep hboxc
            go_roundw
            case rel=>exact ⟨j+1,_,_,_,by omega,by go_num,Hs2.out.1,S2.out.trans Hs2.out.2⟩
            case measure=>simp [intOf];omega
        · skip
          rw [hq0] at Q0
          rw [hq1] at Q1
          rw [hq2] at Q2
          have Hb:Hid (saidB (saidF d i true (ps.take j)) i ps[j]=true):=Lib.hid (by unfold saidB;rw [hq0,hq1,hq2];simp)
          have HQ0:=Lib.hid Q0
          have HQ1:=Lib.hid Q1
          have HQ2:=Lib.hid Q2
          clear Q0 Q1 Q2 Q3 hq0 hq1 hq2
          go_wp2_with fail
          refine HQ0.out.mono ?_
          rintro _ w2 ⟨rfl,rfl⟩
          go_wp2_with fail
          refine HQ1.out.mono ?_
          rintro _ w2 ⟨rfl,rfl⟩
          go_wp2_with fail
          refine HQ2.out.mono ?_
          rintro _ w2 ⟨rfl,rfl⟩
          clear HQ0 HQ1 HQ2
          have hcall:=fail_any HF.out (by have:=Hsm.out.bad;omega) hBr
          have Hcall:=Lib.hid hcall
          clear hcall
          go_wp2_with fail
          refine Hcall.out.mono ?_
          rintro _ w2 ⟨rfl,c2,vb2,hF2',sF2'⟩
          have H2:Hid (FdC w2 x c2 B ((saidF d i true (ps.take j)).failIf true) m (.slice (some ⟨g,0,none⟩) m cap) vb2 ys vss1):=Lib.hid hF2'
          have S2:Hid (FStp c c2 W w2):=Lib.hid (HS.out.trans sF2')
          have hBw2:B≤w2.heap.size:=by have:=S2.out.size;omega
          clear q Hcall hF2' sF2' HF HS hBr
          have hn2:i < ((saidF d i true (ps.take j)).failIf true).fr.length:=by rw [fail_fr];exact Hid1.out
          have hF2:=H2.out.frs i hn2
          rw [fr_getD_fail] at hF2
          obtain ⟨nm2,hblk⟩:=hF2.blk
          rw [← HY.out] at hblk
          have yk:w2.cell? ⟨Y,8,none⟩=some (vss1 i 2):=by rw [cell_of_blk hblk];rfl
          have hown0:=hF2.own 2 (by decide)
          have hrl:=Hsm.out.row i 2
          generalize hrow:((saidF d i true (ps.take j)).fr.getD i dfr).row 2=R at hown0 hrl
          have Hrow:=Lib.hid hrow
          have hfar:∀ w1,w2.grownBy w1 (vss1 i 2).ownBlock→w1.heap[Y]? =w2.heap[Y]? :=fun w1 hg=>H2.out.y_far HY.out hn2 (row:=(vss1 i 2).ownBlock) (fun b e=>⟨_,hF2.cr 2 (by decide) b e,by simp⟩) hg
          have hboxc:w2.cell? ⟨bx,0,none⟩=some (.string (toBA s.kind)):=(S2.out.cell Hbx.out.1).trans Hbx.out.2.1
          have Hfar:=Lib.hid hfar;have Hblk:=Lib.hid hblk;have Hn2:=Lib.hid hn2
          have hs2l:=S2.out.size
          have hrl2:R.length≤50000000:=by omega
          clear hfar hblk hF2 hn2 hrow
          go_wp2_with (at_builtin;refine wpList_append_lies (w2.alloc (.cells #[.string (toBA ps[j])] 9)) rfl (.tmp 62) (.tmp 64) 36 rfl B 9 i0 _ 1 16 Tryz.underlying36 hi hz0 hz1 hz2 rfl (by decide) (vss1 i 2) R.length (strCs R) rfl (hown0.alloc _) ⟨w2.heap.size,0,none⟩ 1 1 [.string (toBA ps[j])] rfl rfl (World.news_of_block (cs:= #[.string (toBA ps[j])]) (heap_alloc_new w2 _)) (by simp [Value.oneCell']) (by decide) (by unfold maxLen;omega) (by omega) (by simp;omega) (w2.heap.size+1) (by simp) ?_;intro g5 cap5 w5 hown5 hg5 hat5 hlt5;have hb5:=(Hfar.out w5 (grown_alloc hg5)).trans Hblk.out;have z6:=(cell_of_blk (o:=8) hb5);have f6:=frozen_of_blk (o:=8) hb5;have zl:=lt_of_blk hb5)
          have hs2:=H2.out.setRow i 2 HY.out Hn2.out (by decide) (.slice (some ⟨g5,0,none⟩) (R.length+1) cap5) (fun x=> { x with glob:=x.glob ++ [ps[j]] }) (grown_alloc hg5) (by
           rw [fr_getD_fail]
           show w5.ownsRow B 9 1 _ (((saidF d i true (ps.take j)).fr.getD i dfr).row 2 ++ [ps[j]]).length (strCs (((saidF d i true (ps.take j)).fr.getD i dfr).row 2 ++ [ps[j]]))
           rw [Hrow.out,strCs_snoc,List.length_append];exact hown5) (by
           rcases hat5 with e | e
           · exact .inl e.symm
           · exact .inr fun b hb=>by
              have:g5=b:=Option.some.inj hb
              omega) ⟨rfl,rfl,rfl⟩ (fun j hj hne=>match j,hj with
             | 0,_=>by first | rfl | exact absurd rfl hne
             | 1,_=>by first | rfl | exact absurd rfl hne
             | 2,_=>by first | rfl | exact absurd rfl hne
             | 3,_=>by first | rfl | exact absurd rfl hne)
          have hstep:saidF d i true (ps.take (j+1))=((saidF d i true (ps.take j)).failIf true).set i (fun x=> { x with glob:=x.glob ++ [ps[j]] }):=by
           rw [saidF_snoc d i true ps j hjl]
           unfold saidS
           rw [Hb.out]
           rfl
          rw [← hstep] at hs2
          have Hs2:=Lib.hid hs2
          clear hs2 hown5 hg5 hat5 hb5 z6 f6 zl hown0 yk hstep hboxc
          go_roundw
          case rel=>exact ⟨j+1,_,_,_,by omega,by go_num,Hs2.out.1,S2.out.trans Hs2.out.2⟩
          case measure=>simp [intOf];omega
      · skip
        rw [hq0] at Q0
        rw [hq1] at Q1
        have Hb:Hid (saidB (saidF d i true (ps.take j)) i ps[j]=true):=Lib.hid (by unfold saidB;rw [hq0,hq1];simp)
        have HQ0:=Lib.hid Q0
        have HQ1:=Lib.hid Q1
        clear Q0 Q1 Q2 Q3 hq0 hq1
        go_wp2_with fail
        refine HQ0.out.mono ?_
        rintro _ w2 ⟨rfl,rfl⟩
        go_wp2_with fail
        refine HQ1.out.mono ?_
        rintro _ w2 ⟨rfl,rfl⟩
        clear HQ0 HQ1
        have hcall:=fail_any HF.out (by have:=Hsm.out.bad;omega) hBr
        have Hcall:=Lib.hid hcall
        clear hcall
        go_wp2_with fail
        refine Hcall.out.mono ?_
        rintro _ w2 ⟨rfl,c2,vb2,hF2',sF2'⟩
        have H2:Hid (FdC w2 x c2 B ((saidF d i true (ps.take j)).failIf true) m (.slice (some ⟨g,0,none⟩) m cap) vb2 ys vss1):=Lib.hid hF2'
        have S2:Hid (FStp c c2 W w2):=Lib.hid (HS.out.trans sF2')
        have hBw2:B≤w2.heap.size:=by have:=S2.out.size;omega
        clear q Hcall hF2' sF2' HF HS hBr
        have hn2:i < ((saidF d i true (ps.take j)).failIf true).fr.length:=by rw [fail_fr];exact Hid1.out
        have hF2:=H2.out.frs i hn2
        rw [fr_getD_fail] at hF2
        obtain ⟨nm2,hblk⟩:=hF2.blk
        rw [← HY.out] at hblk
        have yk:w2.cell? ⟨Y,8,none⟩=some (vss1 i 2):=by rw [cell_of_blk hblk];rfl
        have hown0:=hF2.own 2 (by decide)
        have hrl:=Hsm.out.row i 2
        generalize hrow:((saidF d i true (ps.take j)).fr.getD i dfr).row 2=R at hown0 hrl
        have Hrow:=Lib.hid hrow
        have hfar:∀ w1,w2.grownBy w1 (vss1 i 2).ownBlock→w1.heap[Y]? =w2.heap[Y]? :=fun w1 hg=>H2.out.y_far HY.out hn2 (row:=(vss1 i 2).ownBlock) (fun b e=>⟨_,hF2.cr 2 (by decide) b e,by simp⟩) hg
        have hboxc:w2.cell? ⟨bx,0,none⟩=some (.string (toBA s.kind)):=(S2.out.cell Hbx.out.1).trans Hbx.out.2.1
        have Hfar:=Lib.hid hfar;have Hblk:=Lib.hid hblk;have Hn2:=Lib.hid hn2
        have hs2l:=S2.out.size
        have hrl2:R.length≤50000000:=by omega
        clear hfar hblk hF2 hn2 hrow
        go_wp2_with (at_builtin;refine wpList_append_lies (w2.alloc (.cells #[.string (toBA ps[j])] 9)) rfl (.tmp 62) (.tmp 64) 36 rfl B 9 i0 _ 1 16 Tryz.underlying36 hi hz0 hz1 hz2 rfl (by decide) (vss1 i 2) R.length (strCs R) rfl (hown0.alloc _) ⟨w2.heap.size,0,none⟩ 1 1 [.string (toBA ps[j])] rfl rfl (World.news_of_block (cs:= #[.string (toBA ps[j])]) (heap_alloc_new w2 _)) (by simp [Value.oneCell']) (by decide) (by unfold maxLen;omega) (by omega) (by simp;omega) (w2.heap.size+1) (by simp) ?_;intro g5 cap5 w5 hown5 hg5 hat5 hlt5;have hb5:=(Hfar.out w5 (grown_alloc hg5)).trans Hblk.out;have z6:=(cell_of_blk (o:=8) hb5);have f6:=frozen_of_blk (o:=8) hb5;have zl:=lt_of_blk hb5)
        have hs2:=H2.out.setRow i 2 HY.out Hn2.out (by decide) (.slice (some ⟨g5,0,none⟩) (R.length+1) cap5) (fun x=> { x with glob:=x.glob ++ [ps[j]] }) (grown_alloc hg5) (by
         rw [fr_getD_fail]
         show w5.ownsRow B 9 1 _ (((saidF d i true (ps.take j)).fr.getD i dfr).row 2 ++ [ps[j]]).length (strCs (((saidF d i true (ps.take j)).fr.getD i dfr).row 2 ++ [ps[j]]))
         rw [Hrow.out,strCs_snoc,List.length_append];exact hown5) (by
         rcases hat5 with e | e
         · exact .inl e.symm
         · exact .inr fun b hb=>by
            have:g5=b:=Option.some.inj hb
            omega) ⟨rfl,rfl,rfl⟩ (fun j hj hne=>match j,hj with
           | 0,_=>by first | rfl | exact absurd rfl hne
           | 1,_=>by first | rfl | exact absurd rfl hne
           | 2,_=>by first | rfl | exact absurd rfl hne
           | 3,_=>by first | rfl | exact absurd rfl hne)
        have hstep:saidF d i true (ps.take (j+1))=((saidF d i true (ps.take j)).failIf true).set i (fun x=> { x with glob:=x.glob ++ [ps[j]] }):=by
         rw [saidF_snoc d i true ps j hjl]
         unfold saidS
         rw [Hb.out]
         rfl
        rw [← hstep] at hs2
        have Hs2:=Lib.hid hs2
        clear hs2 hown5 hg5 hat5 hb5 z6 f6 zl hown0 yk hstep hboxc
        go_roundw
        case rel=>exact ⟨j+1,_,_,_,by omega,by go_num,Hs2.out.1,S2.out.trans Hs2.out.2⟩
        case measure=>simp [intOf];omega
    · skip
      rw [hq0] at Q0
      have Hb:Hid (saidB (saidF d i true (ps.take j)) i ps[j]=true):=Lib.hid (by unfold saidB;rw [hq0];simp)
      have HQ0:=Lib.hid Q0
      clear Q0 Q1 Q2 Q3 hq0
      go_wp2_with fail
      refine HQ0.out.mono ?_
      rintro _ w2 ⟨rfl,rfl⟩
      clear HQ0
      have hcall:=fail_any HF.out (by have:=Hsm.out.bad;omega) hBr
      have Hcall:=Lib.hid hcall
      clear hcall
      go_wp2_with fail
      refine Hcall.out.mono ?_
      rintro _ w2 ⟨rfl,c2,vb2,hF2',sF2'⟩
      have H2:Hid (FdC w2 x c2 B ((saidF d i true (ps.take j)).failIf true) m (.slice (some ⟨g,0,none⟩) m cap) vb2 ys vss1):=Lib.hid hF2'
      have S2:Hid (FStp c c2 W w2):=Lib.hid (HS.out.trans sF2')
      have hBw2:B≤w2.heap.size:=by have:=S2.out.size;omega
      clear q Hcall hF2' sF2' HF HS hBr
      have hn2:i < ((saidF d i true (ps.take j)).failIf true).fr.length:=by rw [fail_fr];exact Hid1.out
      have hF2:=H2.out.frs i hn2
      rw [fr_getD_fail] at hF2
      obtain ⟨nm2,hblk⟩:=hF2.blk
      rw [← HY.out] at hblk
      have yk:w2.cell? ⟨Y,8,none⟩=some (vss1 i 2):=by rw [cell_of_blk hblk];rfl
      have hown0:=hF2.own 2 (by decide)
      have hrl:=Hsm.out.row i 2
      generalize hrow:((saidF d i true (ps.take j)).fr.getD i dfr).row 2=R at hown0 hrl
      have Hrow:=Lib.hid hrow
      have hfar:∀ w1,w2.grownBy w1 (vss1 i 2).ownBlock→w1.heap[Y]? =w2.heap[Y]? :=fun w1 hg=>H2.out.y_far HY.out hn2 (row:=(vss1 i 2).ownBlock) (fun b e=>⟨_,hF2.cr 2 (by decide) b e,by simp⟩) hg
      have hboxc:w2.cell? ⟨bx,0,none⟩=some (.string (toBA s.kind)):=(S2.out.cell Hbx.out.1).trans Hbx.out.2.1
      have Hfar:=Lib.hid hfar;have Hblk:=Lib.hid hblk;have Hn2:=Lib.hid hn2
      have hs2l:=S2.out.size
      have hrl2:R.length≤50000000:=by omega
      clear hfar hblk hF2 hn2 hrow
      go_wp2_with (at_builtin;refine wpList_append_lies (w2.alloc (.cells #[.string (toBA ps[j])] 9)) rfl (.tmp 62) (.tmp 64) 36 rfl B 9 i0 _ 1 16 Tryz.underlying36 hi hz0 hz1 hz2 rfl (by decide) (vss1 i 2) R.length (strCs R) rfl (hown0.alloc _) ⟨w2.heap.size,0,none⟩ 1 1 [.string (toBA ps[j])] rfl rfl (World.news_of_block (cs:= #[.string (toBA ps[j])]) (heap_alloc_new w2 _)) (by simp [Value.oneCell']) (by decide) (by unfold maxLen;omega) (by omega) (by simp;omega) (w2.heap.size+1) (by simp) ?_;intro g5 cap5 w5 hown5 hg5 hat5 hlt5;have hb5:=(Hfar.out w5 (grown_alloc hg5)).trans Hblk.out;have z6:=(cell_of_blk (o:=8) hb5);have f6:=frozen_of_blk (o:=8) hb5;have zl:=lt_of_blk hb5)
      have hs2:=H2.out.setRow i 2 HY.out Hn2.out (by decide) (.slice (some ⟨g5,0,none⟩) (R.length+1) cap5) (fun x=> { x with glob:=x.glob ++ [ps[j]] }) (grown_alloc hg5) (by
       rw [fr_getD_fail]
       show w5.ownsRow B 9 1 _ (((saidF d i true (ps.take j)).fr.getD i dfr).row 2 ++ [ps[j]]).length (strCs (((saidF d i true (ps.take j)).fr.getD i dfr).row 2 ++ [ps[j]]))
       rw [Hrow.out,strCs_snoc,List.length_append];exact hown5) (by
       rcases hat5 with e | e
       · exact .inl e.symm
       · exact .inr fun b hb=>by
          have:g5=b:=Option.some.inj hb
          omega) ⟨rfl,rfl,rfl⟩ (fun j hj hne=>match j,hj with
         | 0,_=>by first | rfl | exact absurd rfl hne
         | 1,_=>by first | rfl | exact absurd rfl hne
         | 2,_=>by first | rfl | exact absurd rfl hne
         | 3,_=>by first | rfl | exact absurd rfl hne)
      have hstep:saidF d i true (ps.take (j+1))=((saidF d i true (ps.take j)).failIf true).set i (fun x=> { x with glob:=x.glob ++ [ps[j]] }):=by
       rw [saidF_snoc d i true ps j hjl]
       unfold saidS
       rw [Hb.out]
       rfl
      rw [← hstep] at hs2
      have Hs2:=Lib.hid hs2
      clear hs2 hown5 hg5 hat5 hb5 z6 f6 zl hown0 yk hstep hboxc
      go_roundw
      case rel=>exact ⟨j+1,_,_,_,by omega,by go_num,Hs2.out.1,S2.out.trans Hs2.out.2⟩
      case measure=>simp [intOf];omega
  · have t1:decide ((j:Int) < (ps.length:Int))=false:=by simp;omega
    obtain rfl:j=ps.length:=by omega
    rw [List.take_of_length_le (Nat.le_refl _)] at hF
    have HF:=Lib.hid hF;have HS:=Lib.hid sF
    clear hF sF
    go_wp2_with fail
    go_end0
    exact fdPost_of HF.out (by rw [saidF_len,Hm.out]) (SFA.out.trans HS.out)
set_option maxRecDepth 100000 in
set_option maxHeartbeats 20000000 in
theorem said_nonl {w:World} {x B m:Nat} {c:Clr} {d:Fd} {vl vb:Value} {ys:List Nat} {vss:Nat→Nat→Value} (h:FdC w x c B d m vl vb ys vss) (hm:m=d.fr.length) (i:Nat) (hi':i < m) (s:Stm) (vp:Value) (a1 a2 a3:Option Addr) (n1 n2 n3 k1 k2 k3:Nat)
 (hp:StrsAt w (Un w c) vp s.p) (hpl:s.p.length≤2000000) (hkd:((toBA s.kind).toList == [103,108,111,98,97,108])=false) {N:Nat} (hN:Sm d N) (hN2:N≤30000000) (hB:B≤w.heap.size):
 Calls Tryz.prog 110 #[.pointer (some ⟨x,0,none⟩),.int .i64 (i:Int),.agg #[.string (toBA s.kind),.string (toBA s.name),vp,.slice a1 n1 k1,.slice a2 n2 k2,.slice a3 n3 k3]] w (FdPost w x B c (saidF d i false s.p) (.tuple #[])):=by
 obtain ⟨ap,cp,rfl,hcap,hps⟩:=hp
 obtain ⟨g,cap,nm,Y,hY,rfl,hcap2,cg,hblk⟩:=h.look hi'
 obtain ⟨i0,hi,hz0,hz1,hz2⟩:=info_parts Tryz.infoStrg
 have hBA:=(Below.refl w.heap.size w).alloc (Nat.le_refl _) (.cells #[.string (toBA s.kind),.string (toBA s.name),.slice ap s.p.length cp,.slice a1 n1 k1,.slice a2 n2 k2,.slice a3 n3 k3] 82)
 obtain ⟨hFA,sFA⟩:=h.grow hBA
 have hbx:Un (w.alloc (.cells #[.string (toBA s.kind),.string (toBA s.name),.slice ap s.p.length cp,.slice a1 n1 k1,.slice a2 n2 k2,.slice a3 n3 k3] 82)) c w.heap.size∧(w.alloc (.cells #[.string (toBA s.kind),.string (toBA s.name),.slice ap s.p.length cp,.slice a1 n1 k1,.slice a2 n2 k2,.slice a3 n3 k3] 82)).cell? ⟨w.heap.size,0,none⟩=some (.string (toBA s.kind))∧(w.alloc (.cells #[.string (toBA s.kind),.string (toBA s.name),.slice ap s.p.length cp,.slice a1 n1 k1,.slice a2 n2 k2,.slice a3 n3 k3] 82)).cell? ⟨w.heap.size,2,none⟩=some (.slice ap s.p.length cp):=⟨⟨by simp,h.fresh (Nat.le_refl _)⟩,by rw [cell_of_blk (heap_alloc_new w _)];rfl,by rw [cell_of_blk (heap_alloc_new w _)];rfl⟩
 have c0:(w.alloc (.cells #[.string (toBA s.kind),.string (toBA s.name),.slice ap s.p.length cp,.slice a1 n1 k1,.slice a2 n2 k2,.slice a3 n3 k3] 82)).cell? ⟨x,0,none⟩=some (.slice (some ⟨g,0,none⟩) m cap):=cell_of_blk (o:=0) hFA.blk
 have cgA:(w.alloc (.cells #[.string (toBA s.kind),.string (toBA s.name),.slice ap s.p.length cp,.slice a1 n1 k1,.slice a2 n2 k2,.slice a3 n3 k3] 82)).cell? ⟨g,i,none⟩=some (.pointer (some ⟨Y,0,none⟩)):=by
  obtain ⟨g',cap',nm',Y',hY',hg',_,cg',_⟩:=hFA.look hi'
  injection hg' with e1 _ e3
  injection e1 with e1
  injection e1 with e1 _ _
  subst e1
  rw [cg',hY',← hY]
 have hx:=hFA.x_lt
 have hszA:=sFA.size
 have i1:(0:Int)≤(i:Int):=Int.natCast_nonneg _
 have i2:(i:Int) < (m:Int):=by omega
 have hNf:=hN.fr
 have hid:i < d.fr.length:=by omega
 have hm2:m≤30000000:=by omega
 have k2':=hbx.2.2
 have k0':=hbx.2.1
 have hpsA:0 < s.p.length→∃ b o,ap=some ⟨b,o,none⟩∧Un w c b∧∀ j (hj:j < s.p.length),w.cell? ⟨b,o+j,none⟩=some (.string (toBA s.p[j])):=hps
 have HN:=Lib.hid hN;have Hps:=Lib.hid hpsA;have Hm:=Lib.hid hm;have HY:=Lib.hid hY;have Hbx:=Lib.hid hbx;have HFA:=Lib.hid hFA;have SFA:=Lib.hid sFA;have Hid0:=Lib.hid hid
 clear hps hpsA hN h hm hY hbx hFA sFA hblk cg hBA hNf
 generalize hps':s.p=ps at *
 clear hps'
 go_enter Tryz.func110,Tryz.ntmps110
 go_wp2_with fail
 generalize w.alloc (.cells #[.string (toBA s.kind),.string (toBA s.name),.slice ap ps.length cp,.slice a1 n1 k1,.slice a2 n2 k2,.slice a3 n3 k3] 82)=W at HFA SFA Hbx hx hszA c0 cgA k2' k0' ⊢
 generalize hbxn:w.heap.size=bx at Hbx k2' k0' ⊢
 clear hbxn
 go_loopw [8,19] (fun _ k wr=>∃ (j:Nat) (c1:Clr) (vb1:Value) (vss1:Nat→Nat→Value),j≤ps.length∧k= .int .i64 j∧FdC wr x c1 B (saidF d i false (ps.take j)) m (.slice (some ⟨g,0,none⟩) m cap) vb1 ys vss1∧FStp c c1 W wr) (fun _ k _=>ps.length - (intOf k).toNat)
 case atStart=>exact ⟨0,_,_,_,by omega,rfl,HFA.out,FStp.refl _ _⟩
 case round=>
  obtain ⟨j,c1,vb1,vss1,hj,rfl,hF,sF⟩:=hrel
  by_cases hjl:j < ps.length
  · have t1:decide ((j:Int) < (ps.length:Int))=true:=by simp;omega
    obtain ⟨b,o,rfl,hbU,hz⟩:=Hps.out (by omega)
    have q:wr.cell? ⟨b,o+j,none⟩=some (.string (toBA ps[j])):=((sF.cell (SFA.out.un hbU)).trans (SFA.out.cell hbU)).trans (hz j hjl)
    have hid1:i < (saidF d i false (ps.take j)).fr.length:=by rw [saidF_len];exact Hid0.out
    have hFn:=hF.frs i hid1
    obtain ⟨nm1,hblk1⟩:=hFn.blk
    rw [← HY.out] at hblk1
    have y6:wr.cell? ⟨Y,6,none⟩=some (vss1 i 0):=by rw [cell_of_blk hblk1];rfl
    have y7:wr.cell? ⟨Y,7,none⟩=some (vss1 i 1):=by rw [cell_of_blk hblk1];rfl
    have y8:wr.cell? ⟨Y,8,none⟩=some (vss1 i 2):=by rw [cell_of_blk hblk1];rfl
    have y9:wr.cell? ⟨Y,9,none⟩=some (vss1 i 3):=by rw [cell_of_blk hblk1];rfl
    have hsm:Sm (saidF d i false (ps.take j)) (N+2 * ps.length):=(sm_said i false (ps.take j) N d HN.out).mono (by simp;omega)
    have hszr:w.heap.size≤wr.heap.size:=by have:=SFA.out.size;have:=sF.size;omega
    have hBr:B≤wr.heap.size:=by omega
    have Q0:=has_any _ (vss1 i 0) ps[j] _ (own_strs (hFn.own 0 (by decide))) (by have:=hsm.row i 0;omega)
    have Q1:=has_any _ (vss1 i 1) ps[j] _ (own_strs (hFn.own 1 (by decide))) (by have:=hsm.row i 1;omega)
    have Q2:=has_any _ (vss1 i 2) ps[j] _ (own_strs (hFn.own 2 (by decide))) (by have:=hsm.row i 2;omega)
    have Q3:=has_any _ (vss1 i 3) ps[j] _ (own_strs (hFn.own 3 (by decide))) (by have:=hsm.row i 3;omega)
    have HF:=Lib.hid hF;have HS:=Lib.hid sF;have Hsm:=Lib.hid hsm;have Hid1:=Lib.hid hid1
    clear hF sF hsm hid1 hFn hblk1 hz hszr
    rcases hq0:(((saidF d i false (ps.take j)).fr.getD i dfr).row 0).contains ps[j] with _ | _
    · rcases hq1:(((saidF d i false (ps.take j)).fr.getD i dfr).row 1).contains ps[j] with _ | _
      · rcases hq2:(((saidF d i false (ps.take j)).fr.getD i dfr).row 2).contains ps[j] with _ | _
        · rcases hq3:(((saidF d i false (ps.take j)).fr.getD i dfr).row 3).contains ps[j] with _ | _
          · skip
            rw [hq0] at Q0
            rw [hq1] at Q1
            rw [hq2] at Q2
            rw [hq3] at Q3
            have Hb:Hid (saidB (saidF d i false (ps.take j)) i ps[j]=false):=Lib.hid (by unfold saidB;rw [hq0,hq1,hq2,hq3];simp)
            have HQ0:=Lib.hid Q0
            have HQ1:=Lib.hid Q1
            have HQ2:=Lib.hid Q2
            have HQ3:=Lib.hid Q3
            clear Q0 Q1 Q2 Q3 hq0 hq1 hq2 hq3
            go_wp2_with fail
            refine HQ0.out.mono ?_
            rintro _ w2 ⟨rfl,rfl⟩
            go_wp2_with fail
            refine HQ1.out.mono ?_
            rintro _ w2 ⟨rfl,rfl⟩
            go_wp2_with fail
            refine HQ2.out.mono ?_
            rintro _ w2 ⟨rfl,rfl⟩
            go_wp2_with fail
            refine HQ3.out.mono ?_
            rintro _ w2 ⟨rfl,rfl⟩
            clear HQ0 HQ1 HQ2 HQ3
            have H2:Hid (FdC wr x c1 B ((saidF d i false (ps.take j)).failIf false) m (.slice (some ⟨g,0,none⟩) m cap) vb1 ys vss1):=Lib.hid HF.out
            have S2:Hid (FStp c c1 W wr):=HS
            have hn2:i < ((saidF d i false (ps.take j)).failIf false).fr.length:=by rw [fail_fr];exact Hid1.out
            have hF2:=H2.out.frs i hn2
            rw [fr_getD_fail] at hF2
            obtain ⟨nm2,hblk⟩:=hF2.blk
            rw [← HY.out] at hblk
            have yk:wr.cell? ⟨Y,9,none⟩=some (vss1 i 3):=by rw [cell_of_blk hblk];rfl
            have hown0:=hF2.own 3 (by decide)
            have hrl:=Hsm.out.row i 3
            generalize hrow:((saidF d i false (ps.take j)).fr.getD i dfr).row 3=R at hown0 hrl
            have Hrow:=Lib.hid hrow
            have hfar:∀ w1,wr.grownBy w1 (vss1 i 3).ownBlock→w1.heap[Y]? =wr.heap[Y]? :=fun w1 hg=>H2.out.y_far HY.out hn2 (row:=(vss1 i 3).ownBlock) (fun b e=>⟨_,hF2.cr 3 (by decide) b e,by simp⟩) hg
            have hboxc:wr.cell? ⟨bx,0,none⟩=some (.string (toBA s.kind)):=(S2.out.cell Hbx.out.1).trans Hbx.out.2.1
            have Hfar:=Lib.hid hfar;have Hblk:=Lib.hid hblk;have Hn2:=Lib.hid hn2
            have hs2l:=S2.out.size
            have hrl2:R.length≤50000000:=by omega
            clear hfar hblk hF2 hn2 hrow
            go_wp2_with (at_builtin;refine wpList_append_lies (wr.alloc (.cells #[.string (toBA ps[j])] 9)) rfl (.tmp 72) (.tmp 74) 36 rfl B 9 i0 _ 1 16 Tryz.underlying36 hi hz0 hz1 hz2 rfl (by decide) (vss1 i 3) R.length (strCs R) rfl (hown0.alloc _) ⟨wr.heap.size,0,none⟩ 1 1 [.string (toBA ps[j])] rfl rfl (World.news_of_block (cs:= #[.string (toBA ps[j])]) (heap_alloc_new wr _)) (by simp [Value.oneCell']) (by decide) (by unfold maxLen;omega) (by omega) (by simp;omega) (wr.heap.size+1) (by simp) ?_;intro g5 cap5 w5 hown5 hg5 hat5 hlt5;have hb5:=(Hfar.out w5 (grown_alloc hg5)).trans Hblk.out;have z6:=(cell_of_blk (o:=9) hb5);have f6:=frozen_of_blk (o:=9) hb5;have zl:=lt_of_blk hb5)
            have hs2:=H2.out.setRow i 3 HY.out Hn2.out (by decide) (.slice (some ⟨g5,0,none⟩) (R.length+1) cap5) (fun x=> { x with nonl:=x.nonl ++ [ps[j]] }) (grown_alloc hg5) (by
             rw [fr_getD_fail]
             show w5.ownsRow B 9 1 _ (((saidF d i false (ps.take j)).fr.getD i dfr).row 3 ++ [ps[j]]).length (strCs (((saidF d i false (ps.take j)).fr.getD i dfr).row 3 ++ [ps[j]]))
             rw [Hrow.out,strCs_snoc,List.length_append];exact hown5) (by
             rcases hat5 with e | e
             · exact .inl e.symm
             · exact .inr fun b hb=>by
                have:g5=b:=Option.some.inj hb
                omega) ⟨rfl,rfl,rfl⟩ (fun j hj hne=>match j,hj with
               | 0,_=>by first | rfl | exact absurd rfl hne
               | 1,_=>by first | rfl | exact absurd rfl hne
               | 2,_=>by first | rfl | exact absurd rfl hne
               | 3,_=>by first | rfl | exact absurd rfl hne)
            have hstep:saidF d i false (ps.take (j+1))=((saidF d i false (ps.take j)).failIf false).set i (fun x=> { x with nonl:=x.nonl ++ [ps[j]] }):=by
             rw [saidF_snoc d i false ps j hjl]
             unfold saidS
             rw [Hb.out]
             rfl
            rw [← hstep] at hs2
            have Hs2:=Lib.hid hs2
            clear hs2 hown5 hg5 hat5 hb5 z6 f6 zl hown0 yk hstep hboxc
            go_roundw
            case rel=>exact ⟨j+1,_,_,_,by omega,by go_num,Hs2.out.1,S2.out.trans Hs2.out.2⟩
            case measure=>simp [intOf];omega
          · skip
            rw [hq0] at Q0
            rw [hq1] at Q1
            rw [hq2] at Q2
            rw [hq3] at Q3
            have Hb:Hid (saidB (saidF d i false (ps.take j)) i ps[j]=true):=Lib.hid (by unfold saidB;rw [hq0,hq1,hq2,hq3];simp)
            have HQ0:=Lib.hid Q0
            have HQ1:=Lib.hid Q1
            have HQ2:=Lib.hid Q2
            have HQ3:=Lib.hid Q3
            clear Q0 Q1 Q2 Q3 hq0 hq1 hq2 hq3
            go_wp2_with fail
            refine HQ0.out.mono ?_
            rintro _ w2 ⟨rfl,rfl⟩
            go_wp2_with fail
            refine HQ1.out.mono ?_
            rintro _ w2 ⟨rfl,rfl⟩
            go_wp2_with fail
            refine HQ2.out.mono ?_
            rintro _ w2 ⟨rfl,rfl⟩
            go_wp2_with fail
            refine HQ3.out.mono ?_
            rintro _ w2 ⟨rfl,rfl⟩
            clear HQ0 HQ1 HQ2 HQ3
            have hcall:=fail_any HF.out (by have:=Hsm.out.bad;omega) hBr
            have Hcall:=Lib.hid hcall
            clear hcall
            go_wp2_with fail
            refine Hcall.out.mono ?_
            rintro _ w2 ⟨rfl,c2,vb2,hF2',sF2'⟩
            have H2:Hid (FdC w2 x c2 B ((saidF d i false (ps.take j)).failIf true) m (.slice (some ⟨g,0,none⟩) m cap) vb2 ys vss1):=Lib.hid hF2'
            have S2:Hid (FStp c c2 W w2):=Lib.hid (HS.out.trans sF2')
            have hBw2:B≤w2.heap.size:=by have:=S2.out.size;omega
            clear q Hcall hF2' sF2' HF HS hBr
            have hn2:i < ((saidF d i false (ps.take j)).failIf true).fr.length:=by rw [fail_fr];exact Hid1.out
            have hF2:=H2.out.frs i hn2
            rw [fr_getD_fail] at hF2
            obtain ⟨nm2,hblk⟩:=hF2.blk
            rw [← HY.out] at hblk
            have yk:w2.cell? ⟨Y,9,none⟩=some (vss1 i 3):=by rw [cell_of_blk hblk];rfl
            have hown0:=hF2.own 3 (by decide)
            have hrl:=Hsm.out.row i 3
            generalize hrow:((saidF d i false (ps.take j)).fr.getD i dfr).row 3=R at hown0 hrl
            have Hrow:=Lib.hid hrow
            have hfar:∀ w1,w2.grownBy w1 (vss1 i 3).ownBlock→w1.heap[Y]? =w2.heap[Y]? :=fun w1 hg=>H2.out.y_far HY.out hn2 (row:=(vss1 i 3).ownBlock) (fun b e=>⟨_,hF2.cr 3 (by decide) b e,by simp⟩) hg
            have hboxc:w2.cell? ⟨bx,0,none⟩=some (.string (toBA s.kind)):=(S2.out.cell Hbx.out.1).trans Hbx.out.2.1
            have Hfar:=Lib.hid hfar;have Hblk:=Lib.hid hblk;have Hn2:=Lib.hid hn2
            have hs2l:=S2.out.size
            have hrl2:R.length≤50000000:=by omega
            clear hfar hblk hF2 hn2 hrow
            go_wp2_with (at_builtin;refine wpList_append_lies (w2.alloc (.cells #[.string (toBA ps[j])] 9)) rfl (.tmp 72) (.tmp 74) 36 rfl B 9 i0 _ 1 16 Tryz.underlying36 hi hz0 hz1 hz2 rfl (by decide) (vss1 i 3) R.length (strCs R) rfl (hown0.alloc _) ⟨w2.heap.size,0,none⟩ 1 1 [.string (toBA ps[j])] rfl rfl (World.news_of_block (cs:= #[.string (toBA ps[j])]) (heap_alloc_new w2 _)) (by simp [Value.oneCell']) (by decide) (by unfold maxLen;omega) (by omega) (by simp;omega) (w2.heap.size+1) (by simp) ?_;intro g5 cap5 w5 hown5 hg5 hat5 hlt5;have hb5:=(Hfar.out w5 (grown_alloc hg5)).trans Hblk.out;have z6:=(cell_of_blk (o:=9) hb5);have f6:=frozen_of_blk (o:=9) hb5;have zl:=lt_of_blk hb5)
            have hs2:=H2.out.setRow i 3 HY.out Hn2.out (by decide) (.slice (some ⟨g5,0,none⟩) (R.length+1) cap5) (fun x=> { x with nonl:=x.nonl ++ [ps[j]] }) (grown_alloc hg5) (by
             rw [fr_getD_fail]
             show w5.ownsRow B 9 1 _ (((saidF d i false (ps.take j)).fr.getD i dfr).row 3 ++ [ps[j]]).length (strCs (((saidF d i false (ps.take j)).fr.getD i dfr).row 3 ++ [ps[j]]))
             rw [Hrow.out,strCs_snoc,List.length_append];exact hown5) (by
             rcases hat5 with e | e
             · exact .inl e.symm
             · exact .inr fun b hb=>by
                have:g5=b:=Option.some.inj hb
                omega) ⟨rfl,rfl,rfl⟩ (fun j hj hne=>match j,hj with
               | 0,_=>by first | rfl | exact absurd rfl hne
               | 1,_=>by first | rfl | exact absurd rfl hne
               | 2,_=>by first | rfl | exact absurd rfl hne
               | 3,_=>by first | rfl | exact absurd rfl hne)
            have hstep:saidF d i false (ps.take (j+1))=((saidF d i false (ps.take j)).failIf true).set i (fun x=> { x with nonl:=x.nonl ++ [ps[j]] }):=by
             rw [saidF_snoc d i false ps j hjl]
             unfold saidS
             rw [Hb.out]
             rfl
            rw [← hstep] at hs2
            have Hs2:=Lib.hid hs2
            clear hs2 hown5 hg5 hat5 hb5 z6 f6 zl hown0 yk hstep hboxc
            go_roundw
            case rel=>exact ⟨j+1,_,_,_,by omega,by go_num,Hs2.out.1,S2.out.trans Hs2.out.2⟩
            case measure=>simp [intOf];omega
        · skip
          rw [hq0] at Q0
          rw [hq1] at Q1
          rw [hq2] at Q2
          have Hb:Hid (saidB (saidF d i false (ps.take j)) i ps[j]=true):=Lib.hid (by unfold saidB;rw [hq0,hq1,hq2];simp)
          have HQ0:=Lib.hid Q0
          have HQ1:=Lib.hid Q1
          have HQ2:=Lib.hid Q2
          clear Q0 Q1 Q2 Q3 hq0 hq1 hq2
          go_wp2_with fail
          refine HQ0.out.mono ?_
          rintro _ w2 ⟨rfl,rfl⟩
          go_wp2_with fail
          refine HQ1.out.mono ?_
          rintro _ w2 ⟨rfl,rfl⟩
          go_wp2_with fail
          refine HQ2.out.mono ?_
          rintro _ w2 ⟨rfl,rfl⟩
          clear HQ0 HQ1 HQ2
          have hcall:=fail_any HF.out (by have:=Hsm.out.bad;omega) hBr
          have Hcall:=Lib.hid hcall
          clear hcall
          go_wp2_with fail
          refine Hcall.out.mono ?_
          rintro _ w2 ⟨rfl,c2,vb2,hF2',sF2'⟩
          have H2:Hid (FdC w2 x c2 B ((saidF d i false (ps.take j)).failIf true) m (.slice (some ⟨g,0,none⟩) m cap) vb2 ys vss1):=Lib.hid hF2'
          have S2:Hid (FStp c c2 W w2):=Lib.hid (HS.out.trans sF2')
          have hBw2:B≤w2.heap.size:=by have:=S2.out.size;omega
          clear q Hcall hF2' sF2' HF HS hBr
          have hn2:i < ((saidF d i false (ps.take j)).failIf true).fr.length:=by rw [fail_fr];exact Hid1.out
          have hF2:=H2.out.frs i hn2
          rw [fr_getD_fail] at hF2
          obtain ⟨nm2,hblk⟩:=hF2.blk
          rw [← HY.out] at hblk
          have yk:w2.cell? ⟨Y,9,none⟩=some (vss1 i 3):=by rw [cell_of_blk hblk];rfl
          have hown0:=hF2.own 3 (by decide)
          have hrl:=Hsm.out.row i 3
          generalize hrow:((saidF d i false (ps.take j)).fr.getD i dfr).row 3=R at hown0 hrl
          have Hrow:=Lib.hid hrow
          have hfar:∀ w1,w2.grownBy w1 (vss1 i 3).ownBlock→w1.heap[Y]? =w2.heap[Y]? :=fun w1 hg=>H2.out.y_far HY.out hn2 (row:=(vss1 i 3).ownBlock) (fun b e=>⟨_,hF2.cr 3 (by decide) b e,by simp⟩) hg
          have hboxc:w2.cell? ⟨bx,0,none⟩=some (.string (toBA s.kind)):=(S2.out.cell Hbx.out.1).trans Hbx.out.2.1
          have Hfar:=Lib.hid hfar;have Hblk:=Lib.hid hblk;have Hn2:=Lib.hid hn2
          have hs2l:=S2.out.size
          have hrl2:R.length≤50000000:=by omega
          clear hfar hblk hF2 hn2 hrow
          go_wp2_with (at_builtin;refine wpList_append_lies (w2.alloc (.cells #[.string (toBA ps[j])] 9)) rfl (.tmp 72) (.tmp 74) 36 rfl B 9 i0 _ 1 16 Tryz.underlying36 hi hz0 hz1 hz2 rfl (by decide) (vss1 i 3) R.length (strCs R) rfl (hown0.alloc _) ⟨w2.heap.size,0,none⟩ 1 1 [.string (toBA ps[j])] rfl rfl (World.news_of_block (cs:= #[.string (toBA ps[j])]) (heap_alloc_new w2 _)) (by simp [Value.oneCell']) (by decide) (by unfold maxLen;omega) (by omega) (by simp;omega) (w2.heap.size+1) (by simp) ?_;intro g5 cap5 w5 hown5 hg5 hat5 hlt5;have hb5:=(Hfar.out w5 (grown_alloc hg5)).trans Hblk.out;have z6:=(cell_of_blk (o:=9) hb5);have f6:=frozen_of_blk (o:=9) hb5;have zl:=lt_of_blk hb5)
          have hs2:=H2.out.setRow i 3 HY.out Hn2.out (by decide) (.slice (some ⟨g5,0,none⟩) (R.length+1) cap5) (fun x=> { x with nonl:=x.nonl ++ [ps[j]] }) (grown_alloc hg5) (by
           rw [fr_getD_fail]
           show w5.ownsRow B 9 1 _ (((saidF d i false (ps.take j)).fr.getD i dfr).row 3 ++ [ps[j]]).length (strCs (((saidF d i false (ps.take j)).fr.getD i dfr).row 3 ++ [ps[j]]))
           rw [Hrow.out,strCs_snoc,List.length_append];exact hown5) (by
           rcases hat5 with e | e
           · exact .inl e.symm
           · exact .inr fun b hb=>by
              have:g5=b:=Option.some.inj hb
              omega) ⟨rfl,rfl,rfl⟩ (fun j hj hne=>match j,hj with
             | 0,_=>by first | rfl | exact absurd rfl hne
             | 1,_=>by first | rfl | exact absurd rfl hne
             | 2,_=>by first | rfl | exact absurd rfl hne
             | 3,_=>by first | rfl | exact absurd rfl hne)
          have hstep:saidF d i false (ps.take (j+1))=((saidF d i false (ps.take j)).failIf true).set i (fun x=> { x with nonl:=x.nonl ++ [ps[j]] }):=by
           rw [saidF_snoc d i false ps j hjl]
           unfold saidS
           rw [Hb.out]
           rfl
          rw [← hstep] at hs2
          have Hs2:=Lib.hid hs2
          clear hs2 hown5 hg5 hat5 hb5 z6 f6 zl hown0 yk hstep hboxc
          go_roundw
          case rel=>exact ⟨j+1,_,_,_,by omega,by go_num,Hs2.out.1,S2.out.trans Hs2.out.2⟩
          case measure=>simp [intOf];omega
      · skip
        rw [hq0] at Q0
        rw [hq1] at Q1
        have Hb:Hid (saidB (saidF d i false (ps.take j)) i ps[j]=true):=Lib.hid (by unfold saidB;rw [hq0,hq1];simp)
        have HQ0:=Lib.hid Q0
        have HQ1:=Lib.hid Q1
        clear Q0 Q1 Q2 Q3 hq0 hq1
        go_wp2_with fail
        refine HQ0.out.mono ?_
        rintro _ w2 ⟨rfl,rfl⟩
        go_wp2_with fail
        refine HQ1.out.mono ?_
        rintro _ w2 ⟨rfl,rfl⟩
        clear HQ0 HQ1
        have hcall:=fail_any HF.out (by have:=Hsm.out.bad;omega) hBr
        have Hcall:=Lib.hid hcall
        clear hcall
        go_wp2_with fail
        refine Hcall.out.mono ?_
        rintro _ w2 ⟨rfl,c2,vb2,hF2',sF2'⟩
        have H2:Hid (FdC w2 x c2 B ((saidF d i false (ps.take j)).failIf true) m (.slice (some ⟨g,0,none⟩) m cap) vb2 ys vss1):=Lib.hid hF2'
        have S2:Hid (FStp c c2 W w2):=Lib.hid (HS.out.trans sF2')
        have hBw2:B≤w2.heap.size:=by have:=S2.out.size;omega
        clear q Hcall hF2' sF2' HF HS hBr
        have hn2:i < ((saidF d i false (ps.take j)).failIf true).fr.length:=by rw [fail_fr];exact Hid1.out
        have hF2:=H2.out.frs i hn2
        rw [fr_getD_fail] at hF2
        obtain ⟨nm2,hblk⟩:=hF2.blk
        rw [← HY.out] at hblk
        have yk:w2.cell? ⟨Y,9,none⟩=some (vss1 i 3):=by rw [cell_of_blk hblk];rfl
        have hown0:=hF2.own 3 (by decide)
        have hrl:=Hsm.out.row i 3
        generalize hrow:((saidF d i false (ps.take j)).fr.getD i dfr).row 3=R at hown0 hrl
        have Hrow:=Lib.hid hrow
        have hfar:∀ w1,w2.grownBy w1 (vss1 i 3).ownBlock→w1.heap[Y]? =w2.heap[Y]? :=fun w1 hg=>H2.out.y_far HY.out hn2 (row:=(vss1 i 3).ownBlock) (fun b e=>⟨_,hF2.cr 3 (by decide) b e,by simp⟩) hg
        have hboxc:w2.cell? ⟨bx,0,none⟩=some (.string (toBA s.kind)):=(S2.out.cell Hbx.out.1).trans Hbx.out.2.1
        have Hfar:=Lib.hid hfar;have Hblk:=Lib.hid hblk;have Hn2:=Lib.hid hn2
        have hs2l:=S2.out.size
        have hrl2:R.length≤50000000:=by omega
        clear hfar hblk hF2 hn2 hrow
        go_wp2_with (at_builtin;refine wpList_append_lies (w2.alloc (.cells #[.string (toBA ps[j])] 9)) rfl (.tmp 72) (.tmp 74) 36 rfl B 9 i0 _ 1 16 Tryz.underlying36 hi hz0 hz1 hz2 rfl (by decide) (vss1 i 3) R.length (strCs R) rfl (hown0.alloc _) ⟨w2.heap.size,0,none⟩ 1 1 [.string (toBA ps[j])] rfl rfl (World.news_of_block (cs:= #[.string (toBA ps[j])]) (heap_alloc_new w2 _)) (by simp [Value.oneCell']) (by decide) (by unfold maxLen;omega) (by omega) (by simp;omega) (w2.heap.size+1) (by simp) ?_;intro g5 cap5 w5 hown5 hg5 hat5 hlt5;have hb5:=(Hfar.out w5 (grown_alloc hg5)).trans Hblk.out;have z6:=(cell_of_blk (o:=9) hb5);have f6:=frozen_of_blk (o:=9) hb5;have zl:=lt_of_blk hb5)
        have hs2:=H2.out.setRow i 3 HY.out Hn2.out (by decide) (.slice (some ⟨g5,0,none⟩) (R.length+1) cap5) (fun x=> { x with nonl:=x.nonl ++ [ps[j]] }) (grown_alloc hg5) (by
         rw [fr_getD_fail]
         show w5.ownsRow B 9 1 _ (((saidF d i false (ps.take j)).fr.getD i dfr).row 3 ++ [ps[j]]).length (strCs (((saidF d i false (ps.take j)).fr.getD i dfr).row 3 ++ [ps[j]]))
         rw [Hrow.out,strCs_snoc,List.length_append];exact hown5) (by
         rcases hat5 with e | e
         · exact .inl e.symm
         · exact .inr fun b hb=>by
            have:g5=b:=Option.some.inj hb
            omega) ⟨rfl,rfl,rfl⟩ (fun j hj hne=>match j,hj with
           | 0,_=>by first | rfl | exact absurd rfl hne
           | 1,_=>by first | rfl | exact absurd rfl hne
           | 2,_=>by first | rfl | exact absurd rfl hne
           | 3,_=>by first | rfl | exact absurd rfl hne)
        have hstep:saidF d i false (ps.take (j+1))=((saidF d i false (ps.take j)).failIf true).set i (fun x=> { x with nonl:=x.nonl ++ [ps[j]] }):=by
         rw [saidF_snoc d i false ps j hjl]
         unfold saidS
         rw [Hb.out]
         rfl
        rw [← hstep] at hs2
        have Hs2:=Lib.hid hs2
        clear hs2 hown5 hg5 hat5 hb5 z6 f6 zl hown0 yk hstep hboxc
        go_roundw
        case rel=>exact ⟨j+1,_,_,_,by omega,by go_num,Hs2.out.1,S2.out.trans Hs2.out.2⟩
        case measure=>simp [intOf];omega
    · skip
      rw [hq0] at Q0
      have Hb:Hid (saidB (saidF d i false (ps.take j)) i ps[j]=true):=Lib.hid (by unfold saidB;rw [hq0];simp)
      have HQ0:=Lib.hid Q0
      clear Q0 Q1 Q2 Q3 hq0
      go_wp2_with fail
      refine HQ0.out.mono ?_
      rintro _ w2 ⟨rfl,rfl⟩
      clear HQ0
      have hcall:=fail_any HF.out (by have:=Hsm.out.bad;omega) hBr
      have Hcall:=Lib.hid hcall
      clear hcall
      go_wp2_with fail
      refine Hcall.out.mono ?_
      rintro _ w2 ⟨rfl,c2,vb2,hF2',sF2'⟩
      have H2:Hid (FdC w2 x c2 B ((saidF d i false (ps.take j)).failIf true) m (.slice (some ⟨g,0,none⟩) m cap) vb2 ys vss1):=Lib.hid hF2'
      have S2:Hid (FStp c c2 W w2):=Lib.hid (HS.out.trans sF2')
      have hBw2:B≤w2.heap.size:=by have:=S2.out.size;omega
      clear q Hcall hF2' sF2' HF HS hBr
      have hn2:i < ((saidF d i false (ps.take j)).failIf true).fr.length:=by rw [fail_fr];exact Hid1.out
      have hF2:=H2.out.frs i hn2
      rw [fr_getD_fail] at hF2
      obtain ⟨nm2,hblk⟩:=hF2.blk
      rw [← HY.out] at hblk
      have yk:w2.cell? ⟨Y,9,none⟩=some (vss1 i 3):=by rw [cell_of_blk hblk];rfl
      have hown0:=hF2.own 3 (by decide)
      have hrl:=Hsm.out.row i 3
      generalize hrow:((saidF d i false (ps.take j)).fr.getD i dfr).row 3=R at hown0 hrl
      have Hrow:=Lib.hid hrow
      have hfar:∀ w1,w2.grownBy w1 (vss1 i 3).ownBlock→w1.heap[Y]? =w2.heap[Y]? :=fun w1 hg=>H2.out.y_far HY.out hn2 (row:=(vss1 i 3).ownBlock) (fun b e=>⟨_,hF2.cr 3 (by decide) b e,by simp⟩) hg
      have hboxc:w2.cell? ⟨bx,0,none⟩=some (.string (toBA s.kind)):=(S2.out.cell Hbx.out.1).trans Hbx.out.2.1
      have Hfar:=Lib.hid hfar;have Hblk:=Lib.hid hblk;have Hn2:=Lib.hid hn2
      have hs2l:=S2.out.size
      have hrl2:R.length≤50000000:=by omega
      clear hfar hblk hF2 hn2 hrow
      go_wp2_with (at_builtin;refine wpList_append_lies (w2.alloc (.cells #[.string (toBA ps[j])] 9)) rfl (.tmp 72) (.tmp 74) 36 rfl B 9 i0 _ 1 16 Tryz.underlying36 hi hz0 hz1 hz2 rfl (by decide) (vss1 i 3) R.length (strCs R) rfl (hown0.alloc _) ⟨w2.heap.size,0,none⟩ 1 1 [.string (toBA ps[j])] rfl rfl (World.news_of_block (cs:= #[.string (toBA ps[j])]) (heap_alloc_new w2 _)) (by simp [Value.oneCell']) (by decide) (by unfold maxLen;omega) (by omega) (by simp;omega) (w2.heap.size+1) (by simp) ?_;intro g5 cap5 w5 hown5 hg5 hat5 hlt5;have hb5:=(Hfar.out w5 (grown_alloc hg5)).trans Hblk.out;have z6:=(cell_of_blk (o:=9) hb5);have f6:=frozen_of_blk (o:=9) hb5;have zl:=lt_of_blk hb5)
      have hs2:=H2.out.setRow i 3 HY.out Hn2.out (by decide) (.slice (some ⟨g5,0,none⟩) (R.length+1) cap5) (fun x=> { x with nonl:=x.nonl ++ [ps[j]] }) (grown_alloc hg5) (by
       rw [fr_getD_fail]
       show w5.ownsRow B 9 1 _ (((saidF d i false (ps.take j)).fr.getD i dfr).row 3 ++ [ps[j]]).length (strCs (((saidF d i false (ps.take j)).fr.getD i dfr).row 3 ++ [ps[j]]))
       rw [Hrow.out,strCs_snoc,List.length_append];exact hown5) (by
       rcases hat5 with e | e
       · exact .inl e.symm
       · exact .inr fun b hb=>by
          have:g5=b:=Option.some.inj hb
          omega) ⟨rfl,rfl,rfl⟩ (fun j hj hne=>match j,hj with
         | 0,_=>by first | rfl | exact absurd rfl hne
         | 1,_=>by first | rfl | exact absurd rfl hne
         | 2,_=>by first | rfl | exact absurd rfl hne
         | 3,_=>by first | rfl | exact absurd rfl hne)
      have hstep:saidF d i false (ps.take (j+1))=((saidF d i false (ps.take j)).failIf true).set i (fun x=> { x with nonl:=x.nonl ++ [ps[j]] }):=by
       rw [saidF_snoc d i false ps j hjl]
       unfold saidS
       rw [Hb.out]
       rfl
      rw [← hstep] at hs2
      have Hs2:=Lib.hid hs2
      clear hs2 hown5 hg5 hat5 hb5 z6 f6 zl hown0 yk hstep hboxc
      go_roundw
      case rel=>exact ⟨j+1,_,_,_,by omega,by go_num,Hs2.out.1,S2.out.trans Hs2.out.2⟩
      case measure=>simp [intOf];omega
  · have t1:decide ((j:Int) < (ps.length:Int))=false:=by simp;omega
    obtain rfl:j=ps.length:=by omega
    rw [List.take_of_length_le (Nat.le_refl _)] at hF
    have HF:=Lib.hid hF;have HS:=Lib.hid sF
    clear hF sF
    go_wp2_with fail
    go_end0
    exact fdPost_of HF.out (by rw [saidF_len,Hm.out]) (SFA.out.trans HS.out)
end Go.Proofs.YtdoaeapahgmfoaaGreatDoor

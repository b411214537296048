/- finder.open: the walk. -/
import Derived.Test.YtdoaeapahgmfoaaGreatDoorZ29
namespace Go.Proofs.YtdoaeapahgmfoaaGreatDoor
open Go.RowKit
theorem openP_snoc:∀ (ps b:List (List UInt8)) (d:Fd) (p:List UInt8),openP d b (ps ++ [p])=(openP d b ps).failIf ((b ++ ps).contains p)
 | [],b,d,p=>by simp [openP]
 | q :: r,b,d,p=>by
   simp only [List.cons_append]
   unfold openP
   rw [openP_snoc r]
   simp
def openD (d:Fd) (a:Int) (ps:List (List UInt8)) (j:Nat):Fd:= { openP d [] (ps.take j) with fr:=d.fr ++ [⟨a,ps.length,ps.take j,[],[],[],0⟩] }
theorem openD_all (d:Fd) (a:Int) (ps:List (List UInt8)):openD d a ps ps.length=d.open_ a ps:=by
 unfold openD Fd.open_
 rw [List.take_of_length_le (Nat.le_refl _)]
 simp only [openP_fr]
theorem openD_len (d:Fd) (a:Int) (ps:List (List UInt8)) (j:Nat):(openD d a ps j).fr.length=d.fr.length+1:=by simp [openD]
theorem openD_at (d:Fd) (a:Int) (ps:List (List UInt8)) (j:Nat):(openD d a ps j).fr.getD d.fr.length dfr=⟨a,ps.length,ps.take j,[],[],[],0⟩:=by
 show (d.fr ++ [_]).getD d.fr.length dfr=_
 rw [getD_snocF,if_pos rfl]
theorem openD_step (d:Fd) (a:Int) (ps:List (List UInt8)) (j:Nat) (hj:j < ps.length):openD d a ps (j+1)=((openD d a ps j).failIf ((ps.take j).contains ps[j])).set d.fr.length (fun x=> { x with bound:=x.bound ++ [ps[j]] }):=by
 have e1:openP d [] (ps.take (j+1))=(openP d [] (ps.take j)).failIf ((ps.take j).contains ps[j]):=by
  rw [List.take_succ_eq_append_getElem hj,openP_snoc];rfl
 have e2:∀ x:Fr,∀ f:Fr→Fr,(d.fr ++ [x]).modify d.fr.length f=d.fr ++ [f x]:=by
  intro x f
  apply List.ext_getElem?
  intro k
  rw [List.getElem?_modify]
  rcases Nat.lt_trichotomy k d.fr.length with h | h | h
  · rw [List.getElem?_append_left h,List.getElem?_append_left h,List.getElem?_eq_getElem h]
    have:¬ d.fr.length=k:=by omega
    simp [this]
  · subst h;simp
  · rw [List.getElem?_eq_none (by simp;omega),List.getElem?_eq_none (by simp;omega)];rfl
 unfold openD
 rw [e1]
 generalize openP d [] (ps.take j)=q
 unfold Fd.failIf Fd.fail Fd.set
 rw [List.take_succ_eq_append_getElem hj]
 split <;> simp [e2]
theorem openD_stepB {d:Fd} {a:Int} {ps:List (List UInt8)} {j:Nat} {b:Bool} (hj:j < ps.length) (hb:(ps.take j).contains ps[j]=b):openD d a ps (j+1)=((openD d a ps j).failIf b).set d.fr.length (fun x=> { x with bound:=x.bound ++ [ps[j]] }):=by
 rw [← hb];exact openD_step d a ps j hj
theorem sm_openD {d:Fd} {N:Nat} (h:Sm d N) (a:Int) (ps:List (List UInt8)) (j:Nat) (hj:j≤ps.length):Sm (openD d a ps j) (N+ps.length+1):=by
 have h1:=(sm_openP (ps.take j) [] d N h).mono (show N+(ps.take j).length≤N+ps.length+1 by simp;omega)
 refine ⟨by rw [openD_len];have:=h.fr;omega,h1.bad,fun i k=> ?_,fun i=> ?_,h1.lo,h1.hi⟩
 · show (((d.fr ++ [_]).getD i dfr).row k).length≤_
   rw [getD_snocF]
   split
   · match k with
     | 0=>show (ps.take j).length≤_;simp;omega
     | 1=>exact Nat.zero_le _
     | 2=>exact Nat.zero_le _
     | _+3=>exact Nat.zero_le _
   · have:=h.row i k;omega
 · show ((d.fr ++ [_]).getD i dfr).loops≤_
   rw [getD_snocF]
   split
   · exact Nat.zero_le _
   · have:=h.loops i;omega
theorem Tryz.infoPtrFr:(Tryz.prog.info? 95).map (fun i=>(i.zero,i.size,i.bytes))=some (some (.pointer none),1,8):=by kernel_rfl
set_option maxRecDepth 100000 in
set_option maxHeartbeats 20000000 in
theorem open_any {w:World} {x B m:Nat} {c:Clr} {d:Fd} {vl vb:Value} {ys:List Nat} {vss:Nat→Nat→Value} (h:FdC w x c B d m vl vb ys vss) (hm:m=d.fr.length) (nm:ByteArray) (a:Int) (ps:List (List UInt8)) (vp:Value) (hp:StrsAt w (Un w c) vp ps) (hpl:ps.length≤2000000) {N:Nat} (hN:Sm d N) (hN2:N≤30000000) (hB:B≤w.heap.size):
 Calls Tryz.prog 72 #[.pointer (some ⟨x,0,none⟩),.string nm,.int .i64 a,vp] w (FdPost w x B c (d.open_ a ps) (.int .i64 (m:Int))):=by
 obtain ⟨ap,cp,rfl,hcap,hps⟩:=hp
 obtain ⟨nF,sF⟩:=h.newFrame nm a ps.length
 have hm2:m≤30000000:=by have:=hN.fr;omega
 have hx:=h.x_lt
 obtain ⟨i0,hi,hz0,hz1,hz2⟩:=info_parts Tryz.infoStrg
 obtain ⟨p0,hpi,hpz0,hpz1,hpz2⟩:=info_parts Tryz.infoPtrFr
 have hlen:=h.len
 have HN:=Lib.hid hN;have Hps:=Lib.hid hps;have Hm:=Lib.hid hm;have Hlen:=Lib.hid hlen
 clear hps hN h hlen hm
 go_enter Tryz.func72,Tryz.ntmps72
 have hbW:(w.alloc (.cells (frCells nm (newFr a ps.length) nilVs) 97 (0,0))).heap.size=w.heap.size+1:=by simp
 go_wp2_with fail
 change FdC (w.alloc (.cells #[.string nm,.int .i64 a,.int .i64 (ps.length:Int),.slice none 0 0,.slice none 0 0,.slice none 0 0,.slice none 0 0,.slice none 0 0,.slice none 0 0,.slice none 0 0,.int .i64 0] 97 (0,0))) x _ B (openD d a ps 0) m vl vb (ys ++ [w.heap.size]) _ at nF
 change FStp _ _ w (w.alloc (.cells #[.string nm,.int .i64 a,.int .i64 (ps.length:Int),.slice none 0 0,.slice none 0 0,.slice none 0 0,.slice none 0 0,.slice none 0 0,.slice none 0 0,.slice none 0 0,.int .i64 0] 97 (0,0))) at sF
 generalize w.alloc (.cells #[.string nm,.int .i64 a,.int .i64 (ps.length:Int),.slice none 0 0,.slice none 0 0,.slice none 0 0,.slice none 0 0,.slice none 0 0,.slice none 0 0,.slice none 0 0,.int .i64 0] 97 (0,0))=W at nF sF ⊢
 clear hbW
 have hY:w.heap.size=(ys ++ [w.heap.size]).getD d.fr.length 0:=by rw [getD_snocN,Hlen.out,if_pos rfl]
 have hyl:=sF.size
 generalize hYn:w.heap.size=Y at hY nF sF ⊢
 have HsF:=Lib.hid sF;have HnF:=Lib.hid nF;have HY:=Lib.hid hY
 have HYn:=Lib.hid hYn;clear hY hYn nF sF
 go_loopw [11,21] (fun _ i wr=>∃ (j:Nat) (c1:Clr) (vb1:Value) (vss1:Nat→Nat→Value),j≤ps.length∧i= .int .i64 j∧FdC wr x c1 B (openD d a ps j) m vl vb1 (ys ++ [Y]) vss1∧FStp c c1 w wr) (fun _ i _=>ps.length - (intOf i).toNat)
 case atStart=>exact ⟨0,_,_,_,by omega,rfl,HnF.out,HsF.out⟩
 case round=>
  obtain ⟨j,c1,vb1,vss1,hj,rfl,hF,sF⟩:=hrel
  by_cases hjl:j < ps.length
  · have t1:decide ((j:Int) < (ps.length:Int))=true:=by simp;omega
    obtain ⟨b,o,rfl,hbU,hz⟩:=Hps.out (by omega)
    have q:=(sF.cell hbU).trans (hz j hjl)
    have hn1:d.fr.length < (openD d a ps j).fr.length:=by rw [openD_len];omega
    have hFn:=hF.frs d.fr.length hn1
    rw [openD_at,← HY.out] at hFn
    obtain ⟨nm1,hblk⟩:=hFn.blk
    have y6:wr.cell? ⟨Y,6,none⟩=some (vss1 d.fr.length 0):=by rw [cell_of_blk hblk];rfl
    have hjp:j≤2000000:=by omega
    have hown0:=hFn.own 0 (by decide)
    have hq:=has_any (ps.take j) (vss1 d.fr.length 0) ps[j] _ (own_strs hown0) (by simp;omega)
    have hsm:=sm_openD HN.out a ps j hj
    have hszr:w.heap.size≤wr.heap.size:=sF.size
    have HF:=Lib.hid hF;have HS:=Lib.hid sF;have Hsm:=Lib.hid hsm;have Hn1:=Lib.hid hn1;have Hzl:=Lib.hid hszr
    have hBr:B≤wr.heap.size:=by omega
    clear hF sF hsm hFn hown0 hz hblk hn1 hszr
    rcases hb:(ps.take j).contains ps[j] with _ | _
    · rw [hb] at hq
      have Hq:=Lib.hid hq;have Hb:=Lib.hid hb
      clear hq hb
      have H2:Hid (FdC wr x c1 B ((openD d a ps j).failIf false) m vl vb1 (ys ++ [Y]) vss1):=Lib.hid HF.out
      have S2:Hid (FStp c c1 w wr):=HS
      go_wp2_with fail
      refine Hq.out.mono ?_
      rintro _ w2 ⟨rfl,rfl⟩
      clear y6
      have hn2:d.fr.length < ((openD d a ps j).failIf false).fr.length:=by rw [fail_fr];exact Hn1.out
      have hF2:=H2.out.frs d.fr.length hn2
      rw [fail_fr,openD_at,← HY.out] at hF2
      obtain ⟨nm2,hblk⟩:=hF2.blk
      have y6:wr.cell? ⟨Y,6,none⟩=some (vss1 d.fr.length 0):=by rw [cell_of_blk hblk];rfl
      have hown0:=hF2.own 0 (by decide)
      have hown1:wr.ownsRow B 9 1 (vss1 d.fr.length 0) j (strCs (ps.take j)):=by
       have e:(ps.take j).length=j:=by simp;omega
       have h0:wr.ownsRow B 9 1 (vss1 d.fr.length 0) (ps.take j).length (strCs (ps.take j)):=hown0
       rwa [e] at h0
      have hfar:∀ w1,wr.grownBy w1 (vss1 d.fr.length 0).ownBlock→w1.heap[Y]? =wr.heap[Y]? :=fun w1 hg=>H2.out.y_far HY.out hn2 (row:=(vss1 d.fr.length 0).ownBlock) (fun b e=>⟨_,hF2.cr 0 (by decide) b e,by simp⟩) hg
      have Hfar:=Lib.hid hfar;have Hblk:=Lib.hid hblk;have Hn2:=Lib.hid hn2
      have hs2l:=S2.out.size
      clear hfar hblk hF2 hown0 hn2
      go_wp2_with (at_builtin;refine wpList_append_lies (wr.alloc (.cells #[.string (toBA ps[j])] 9)) rfl (.tmp 37) (.tmp 39) 36 rfl B 9 i0 _ 1 16 Tryz.underlying36 hi hz0 hz1 hz2 rfl (by decide) (vss1 d.fr.length 0) j (strCs (ps.take j)) rfl (hown1.alloc _) ⟨wr.heap.size,0,none⟩ 1 1 [.string (toBA ps[j])] rfl rfl (World.news_of_block (cs:= #[.string (toBA ps[j])]) (heap_alloc_new wr _)) (by simp [Value.oneCell']) (by decide) (by unfold maxLen;omega) (by omega) (by simp;omega) (wr.heap.size+1) (by simp) ?_;intro g5 cap5 w5 hown5 hg5 hat5 hlt5;have hb5:=(Hfar.out w5 (grown_alloc hg5)).trans Hblk.out;have z6:=(cell_of_blk (o:=6) hb5);have f6:=frozen_of_blk (o:=6) hb5;have zl:=lt_of_blk hb5)
      have hs2:=H2.out.setRow d.fr.length 0 HY.out Hn2.out (by decide) (.slice (some ⟨g5,0,none⟩) (j+1) cap5) (fun x=> { x with bound:=x.bound ++ [ps[j]] }) (grown_alloc hg5) (by
       rw [fail_fr,openD_at]
       show w5.ownsRow B 9 1 _ (ps.take j ++ [ps[j]]).length (strCs (ps.take j ++ [ps[j]]))
       have e:(ps.take j ++ [ps[j]]).length=j+1:=by simp;omega
       rw [strCs_snoc,e];exact hown5) (by
       rcases hat5 with e | e
       · exact .inl e.symm
       · exact .inr fun b hb=>by
          have:g5=b:=Option.some.inj hb
          omega) ⟨rfl,rfl,rfl⟩ (fun j hj hne=>match j,hj with
         | 0,_=>absurd rfl hne
         | 1,_=>rfl
         | 2,_=>rfl
         | 3,_=>rfl)
      rw [← openD_stepB hjl Hb.out] at hs2
      have Hs2:=Lib.hid hs2
      clear hs2 hown5 hg5 hat5 hb5 z6 f6 zl hown1 y6
      go_roundw
      case rel=>exact ⟨j+1,_,_,_,by omega,by go_num,Hs2.out.1,S2.out.trans Hs2.out.2⟩
      case measure=>simp [intOf];omega
    · rw [hb] at hq
      have hcall:=fail_any HF.out (by have:=Hsm.out.bad;omega) hBr
      have Hq:=Lib.hid hq;have Hb:=Lib.hid hb;have Hcall:=Lib.hid hcall
      clear hq hb hcall
      go_wp2_with fail
      refine Hq.out.mono ?_
      rintro _ w2 ⟨rfl,rfl⟩
      go_wp2_with fail
      refine Hcall.out.mono ?_
      rintro _ w2 ⟨rfl,c2,vb2,hF2',sF2'⟩
      have H2:Hid (FdC w2 x c2 B ((openD d a ps j).failIf true) m vl vb2 (ys ++ [Y]) vss1):=Lib.hid hF2'
      have S2:Hid (FStp c c2 w w2):=Lib.hid (HS.out.trans sF2')
      have hBw2:B≤w2.heap.size:=by have:=S2.out.size;omega
      clear y6 q Hq Hcall hF2' sF2' HF HS hBr
      have hn2:d.fr.length < ((openD d a ps j).failIf true).fr.length:=by rw [fail_fr];exact Hn1.out
      have hF2:=H2.out.frs d.fr.length hn2
      rw [fail_fr,openD_at,← HY.out] at hF2
      obtain ⟨nm2,hblk⟩:=hF2.blk
      have y6:w2.cell? ⟨Y,6,none⟩=some (vss1 d.fr.length 0):=by rw [cell_of_blk hblk];rfl
      have hown0:=hF2.own 0 (by decide)
      have hown1:w2.ownsRow B 9 1 (vss1 d.fr.length 0) j (strCs (ps.take j)):=by
       have e:(ps.take j).length=j:=by simp;omega
       have h0:w2.ownsRow B 9 1 (vss1 d.fr.length 0) (ps.take j).length (strCs (ps.take j)):=hown0
       rwa [e] at h0
      have hfar:∀ w1,w2.grownBy w1 (vss1 d.fr.length 0).ownBlock→w1.heap[Y]? =w2.heap[Y]? :=fun w1 hg=>H2.out.y_far HY.out hn2 (row:=(vss1 d.fr.length 0).ownBlock) (fun b e=>⟨_,hF2.cr 0 (by decide) b e,by simp⟩) hg
      have Hfar:=Lib.hid hfar;have Hblk:=Lib.hid hblk;have Hn2:=Lib.hid hn2
      have hs2l:=S2.out.size
      clear hfar hblk hF2 hown0 hn2
      go_wp2_with (at_builtin;refine wpList_append_lies (w2.alloc (.cells #[.string (toBA ps[j])] 9)) rfl (.tmp 37) (.tmp 39) 36 rfl B 9 i0 _ 1 16 Tryz.underlying36 hi hz0 hz1 hz2 rfl (by decide) (vss1 d.fr.length 0) j (strCs (ps.take j)) rfl (hown1.alloc _) ⟨w2.heap.size,0,none⟩ 1 1 [.string (toBA ps[j])] rfl rfl (World.news_of_block (cs:= #[.string (toBA ps[j])]) (heap_alloc_new w2 _)) (by simp [Value.oneCell']) (by decide) (by unfold maxLen;omega) (by omega) (by simp;omega) (w2.heap.size+1) (by simp) ?_;intro g5 cap5 w5 hown5 hg5 hat5 hlt5;have hb5:=(Hfar.out w5 (grown_alloc hg5)).trans Hblk.out;have z6:=(cell_of_blk (o:=6) hb5);have f6:=frozen_of_blk (o:=6) hb5;have zl:=lt_of_blk hb5)
      have hs2:=H2.out.setRow d.fr.length 0 HY.out Hn2.out (by decide) (.slice (some ⟨g5,0,none⟩) (j+1) cap5) (fun x=> { x with bound:=x.bound ++ [ps[j]] }) (grown_alloc hg5) (by
       rw [fail_fr,openD_at]
       show w5.ownsRow B 9 1 _ (ps.take j ++ [ps[j]]).length (strCs (ps.take j ++ [ps[j]]))
       have e:(ps.take j ++ [ps[j]]).length=j+1:=by simp;omega
       rw [strCs_snoc,e];exact hown5) (by
       rcases hat5 with e | e
       · exact .inl e.symm
       · exact .inr fun b hb=>by
          have:g5=b:=Option.some.inj hb
          omega) ⟨rfl,rfl,rfl⟩ (fun j hj hne=>match j,hj with
         | 0,_=>absurd rfl hne
         | 1,_=>rfl
         | 2,_=>rfl
         | 3,_=>rfl)
      rw [← openD_stepB hjl Hb.out] at hs2
      have Hs2:=Lib.hid hs2
      clear hs2 hown5 hg5 hat5 hb5 z6 f6 zl hown1 y6
      go_roundw
      case rel=>exact ⟨j+1,_,_,_,by omega,by go_num,Hs2.out.1,S2.out.trans Hs2.out.2⟩
      case measure=>simp [intOf];omega
  · have t1:decide ((j:Int) < (ps.length:Int))=false:=by simp;omega
    obtain rfl:j=ps.length:=by omega
    rw [openD_all] at hF
    have hln:(d.open_ a ps).fr.length=m+1:=by rw [← openD_all,openD_len,Hm.out]
    have hYm:(ys ++ [Y]).getD m 0=Y:=by rw [Hm.out,← HY.out]
    have c0:=cell_of_blk (o:=0) hF.blk
    have f0:=frozen_of_blk (o:=0) hF.blk
    have hxr:=hF.x_lt
    have hlo:=hF.lown
    have hfar:∀ w1,wr.grownBy w1 vl.ownBlock→w1.heap[x]? =some (.cells #[vl,.int .i64 (d.open_ a ps).stmt,vb1] 94 (0,0)):=fun w1 hg=>hF.x_far (row:=vl.ownBlock) (fun b e=>⟨_,hF.lc b e,by simp⟩) hg
    have hszr:w.heap.size≤wr.heap.size:=sF.size
    have HF:=Lib.hid hF;have HS:=Lib.hid sF;have Hln:=Lib.hid hln;have HYm:=Lib.hid hYm;have Hfar:=Lib.hid hfar
    clear hF sF hln hYm hfar
    go_wp2_with (at_builtin;refine wpList_append_lies (wr.alloc (.cells #[.pointer (some ⟨Y,0,none⟩)] 95)) rfl (.tmp 48) (.tmp 50) 91 rfl B 95 p0 _ 1 8 Tryz.underlying91 hpi hpz0 hpz1 hpz2 rfl (by decide) vl m (ptrCs ((ys ++ [Y]).take m)) rfl (hlo.alloc _) ⟨wr.heap.size,0,none⟩ 1 1 [.pointer (some ⟨Y,0,none⟩)] rfl rfl (World.news_of_block (cs:= #[.pointer (some ⟨Y,0,none⟩)]) (heap_alloc_new wr _)) (by simp [Value.oneCell']) (by decide) (by unfold maxLen;omega) (by omega) (by simp;omega) (wr.heap.size+1) (by simp) ?_;intro g5 cap5 w5 hown5 hg5 hat5 hlt5;have hb5:=Hfar.out w5 (grown_alloc hg5);have z0:=(cell_of_blk (o:=0) hb5);have f5:=frozen_of_blk (o:=0) hb5;have zl:=lt_of_blk hb5)
    have hs2:=HF.out.push (.slice (some ⟨g5,0,none⟩) (m+1) cap5) (by have:=Hln.out;omega) (grown_alloc hg5) (by rw [HYm.out];exact hown5) (by
     rcases hat5 with e | e
     · exact .inl e.symm
     · exact .inr fun b hb=>by
        have:g5=b:=Option.some.inj hb
        omega)
    have Hs2:=Lib.hid hs2
    clear hs2
    refine bodyPost_ret (results_tmp rfl _ _ _) rfl ?_
    exact fdPost_ofR (by go_num) Hs2.out.1 Hln.out.symm (HS.out.trans Hs2.out.2)
end Go.Proofs.YtdoaeapahgmfoaaGreatDoor

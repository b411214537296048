/- finder.block: the walk. -/
import Derived.Deep.CutBlock
import Derived.Test.YtdoaeapahgmfoaaGreatDoorZ30
import Derived.Test.YtdoaeapahgmfoaaGreatDoorZ34
namespace Go.Proofs.YtdoaeapahgmfoaaGreatDoor
open Go.RowKit
def FBlockC (f:Nat):Prop:=∀ (l:List Stm) (i:Nat) (w:World) (x B m N:Nat) (c:Clr) (d:Fd) (vl vb vz:Value) (ys:List Nat) (vss:Nat→Nat→Value),stmsNodes l < f→FdC w x c B d m vl vb ys vss→m=d.fr.length→i < m→Sm d N→N+8 * stmsBulk l≤16000000→B≤w.heap.size→
 StmsAt w (Un w c) vz l→Calls Tryz.prog 73 #[.pointer (some ⟨x,0,none⟩),.int .i64 (i:Int),vz] w (FdPost w x B c (blockF f l i d) (.tuple #[]))
theorem blockF_take (f:Nat) (l:List Stm) (i:Nat) (d:Fd) (j:Nat) (hj:j < l.length):blockF (f+1) (l.take (j+1)) i d=kindF3 f l[j] i (headF l[j] i (blockF (f+1) (l.take j) i d)):=by
 rw [blockF_eq,blockF_eq]
 exact fold_take (fun d s=>kindF3 f s i (headF s i d)) l d j hj
theorem block_len (f:Nat) (l:List Stm) (i:Nat) (d:Fd) (hi:i < d.fr.length):d.fr.length≤(blockF f l i d).fr.length:=(gd_block f l i d hi).len
theorem kindF1_len (s:Stm) (i:Nat) (d:Fd):(kindF1 s i d).fr.length=d.fr.length:=by
 unfold kindF1
 split
 · rw [fail_fr]
 · split
   · rw [fail_fr]
   · split
     · rw [saidF_len,fail_fr]
     · rfl
theorem bindF_len (d:Fd) (i:Nat) (n:List UInt8):(d.bind i n).fr.length=d.fr.length:=by
 unfold Fd.bind
 split
 · rfl
 · simp [Fd.set]
theorem kindF2_len (s:Stm) (i:Nat) (d:Fd):(kindF2 s i d).fr.length=d.fr.length:=by
 unfold kindF2
 split
 · exact bindF_len _ _ _
 · rfl
theorem fterms_len (i:Nat):∀ (l:List Ex) (d:Fd),i < d.fr.length→d.fr.length≤(l.foldl (fun a e=>termF e.nodes e i a) d).fr.length
 | [],_,_=>Nat.le_refl _
 | e :: r,d,h=>by
   have h1:=(gd_term e.nodes e i d h).len
   simp only [List.foldl_cons]
   exact Nat.le_trans h1 (fterms_len i r _ (Nat.lt_of_lt_of_le h h1))
theorem sm_fterms (i:Nat) (l:List Ex) (N:Nat) (d:Fd) (h:Sm d N):Sm (l.foldl (fun a e=>termF e.nodes e i a) d) (N+8 * exsBulk l):=sm_exs _ l (fun a _ N d h=>sm_term _ a i N d h) N d h
theorem sbk_take (l:List Stm) (j:Nat) (hj:j < l.length):stmsBulk (l.take (j+1))=stmsBulk (l.take j)+l[j].bulk:=by
 induction l generalizing j with
 | nil=>simp at hj
 | cons e r ih=>
   cases j with
   | zero=>simp [stmsBulk]
   | succ j=>
     have:=ih j (by simpa using hj)
     simp only [List.take_succ_cons,stmsBulk,List.getElem_cons_succ]
     omega
theorem sbk_le (l:List Stm) (j:Nat):stmsBulk (l.take j)≤stmsBulk l:=by
 induction l generalizing j with
 | nil=>simp [stmsBulk]
 | cons e r ih=>cases j with
   | zero=>simp [stmsBulk]
   | succ j=>have:=ih j;simp only [List.take_succ_cons,stmsBulk];omega
theorem FdC.same {w w':World} {x B m m':Nat} {c c':Clr} {d d':Fd} {vl vb vl' vb':Value} {ys ys':List Nat} {vss vss':Nat→Nat→Value} (h:FdC w x c B d m vl vb ys vss) {i:Nat} (hi:i < d.fr.length) (s:FStp c c' w w') (h':FdC w' x c' B d' m' vl' vb' ys' vss'):ys'.getD i 0=ys.getD i 0:=by
 have hc:=(h.frs i hi).cy
 exact (h'.one _ _ (((s.keep _ (h.lo _ _ hc).2).1).trans hc)).2
def FAt (w0:World) (c0:Clr) (x B:Nat) (d:Fd) (W:World):Prop:=∃ (c:Clr) (vl vb:Value) (ys:List Nat) (vss:Nat→Nat→Value),FdC W x c B d d.fr.length vl vb ys vss∧FStp c0 c w0 W
theorem fAt_of {w0:World} {c0 c:Clr} {x B m:Nat} {d:Fd} {W:World} {vl vb:Value} {ys:List Nat} {vss:Nat→Nat→Value} (h:FdC W x c B d m vl vb ys vss) (hm:m=d.fr.length) (s:FStp c0 c w0 W):FAt w0 c0 x B d W:=by
 subst hm
 exact ⟨c,vl,vb,ys,vss,h,s⟩
set_option maxRecDepth 100000 in
set_option maxHeartbeats 40000000 in
theorem fblock_step {f:Nat} (hf:FBlockC f):FBlockC (f+1):=by
 intro l i w x B m N c d vl vb vz ys vss hnd h hm hi hN hN2 hB hz
 subst hm
 obtain ⟨al,cl,rfl,hlr⟩:=hz
 have hln:=stmsBulk_len l
 have HF0:=Lib.hid h;have HI0:=Lib.hid hi;have HN0:=Lib.hid hN;have Hrow:=Lib.hid hlr;have Hf:=Lib.hid hf;have Hnd:=Lib.hid hnd
 clear h hi hN hlr hf hnd
 go_enter Tryz.func73,Tryz.ntmps73
 go_wp2_with fail
 go_loopw [13,8,33,43,49,74,85,107] (fun t _ _ _ _ _ _ _ wr=>∃ (j:Nat) (c1:Clr) (vl1 vb1:Value) (ys1:List Nat) (vss1:Nat→Nat→Value),j≤l.length∧t= .int .i64 j∧FdC wr x c1 B (blockF (f+1) (l.take j) i d) (blockF (f+1) (l.take j) i d).fr.length vl1 vb1 ys1 vss1∧FStp c c1 w wr) (fun t _ _ _ _ _ _ _ _=>l.length - (intOf t).toNat)
 case atStart=>exact ⟨0,_,_,_,_,_,by omega,rfl,HF0.out,FStp.refl _ _⟩
 case round=>
  obtain ⟨j,c1,vl1,vb1,ys1,vss1,hj,rfl,hF,sS⟩:=hrel
  by_cases hjl:j < l.length
  · have t1:decide ((j:Int) < (l.length:Int))=true:=by simp;omega
    obtain ⟨b,o,rfl,hbR,hrow⟩:=Hrow.out (by omega)
    obtain ⟨vp1,vx1,vd1,ve1,q0,q1,q2,q3,q4,q5,hp1,hx1,hd1,he1⟩:=(hrow.at_ _ _ _ j hjl).open_
    have hlen:=block_len (f+1) (l.take j) i d HI0.out
    have hsm:=sm_block (f+1) (l.take j) i N d HN0.out
    have hmem:=stms_mem (List.getElem_mem hjl)
    have hbt:=sbk_take l j hjl
    have hbl:stmsBulk (l.take (j+1))≤stmsBulk l:=sbk_le _ _
    have hstep:=blockF_take f l i d j hjl
    have hnd1:=Hnd.out
    have q0:=(sS.cell hbR).trans q0
    have q1:=(sS.cell hbR).trans q1
    have q2:=(sS.cell hbR).trans q2
    have q3:=(sS.cell hbR).trans q3
    have q4:=(sS.cell hbR).trans q4
    have q5:=(sS.cell hbR).trans q5
    have hp1:=sS.strs hp1
    have hx1:=sS.exs hx1
    have hd1:=sS.stms hd1
    have he1:=sS.stms he1
    obtain ⟨D,hD⟩:∃ D,D=blockF (f+1) (l.take j) i d:=⟨_,rfl⟩
    rw [← hD] at hF hlen hsm hstep
    obtain ⟨s,hs⟩:∃ s,s=l[j]:=⟨_,rfl⟩
    rw [← hs] at q0 q1 hp1 hx1 hd1 he1 hmem hbt hstep
    obtain ⟨N1,hN1,hN1b⟩:∃ N1,Sm D N1∧N1+8 * s.bulk≤16000000:=⟨_,hsm,by omega⟩
    have hnb:stmsNodes s.body < f∧stmsNodes s.els < f:=by
     have:=Stm.nodes_eq s
     have:=hmem.2.1
     omega
    have hbe:=Stm.bulk_eq s
    have hpl:=strsBulk_len s.p
    have hxl:=exsBulk_len s.l
    have hiD:i < D.fr.length:=Nat.lt_of_lt_of_le HI0.out hlen
    have HpW:=Lib.hid hp1;have HxW:=Lib.hid hx1;have HdW:=Lib.hid hd1;have HeW:=Lib.hid he1
    obtain ⟨ap,cp,rfl,_,_⟩:=hp1
    obtain ⟨ax,cx,rfl,_,hxr⟩:=hx1
    obtain ⟨abd,cbd,rfl,_⟩:=hd1
    obtain ⟨ae,ce,rfl,_⟩:=he1
    have hbA:=(Below.refl wr.heap.size wr).alloc (Nat.le_refl _) (.cells #[.string (toBA s.kind),.string (toBA s.name),.slice ap s.p.length cp,.slice ax s.l.length cx,.slice abd s.body.length cbd,.slice ae s.els.length ce] 82)
    obtain ⟨hFA,sA⟩:=hF.grow hbA
    have hblk:=heap_alloc_new wr (.cells #[.string (toBA s.kind),.string (toBA s.name),.slice ap s.p.length cp,.slice ax s.l.length cx,.slice abd s.body.length cbd,.slice ae s.els.length ce] 82)
    have hbU:Un (wr.alloc (.cells #[.string (toBA s.kind),.string (toBA s.name),.slice ap s.p.length cp,.slice ax s.l.length cx,.slice abd s.body.length cbd,.slice ae s.els.length ce] 82)) c1 wr.heap.size:=⟨by simp,hF.fresh (Nat.le_refl _)⟩
    have hsmA:=sm_stmt hN1
    have hst1:=hN1.lo
    have hst2:=hN1.hi
    obtain ⟨hFS,sSt⟩:=hFA.setStmt (D.stmt+1)
    have x1:=cell_of_blk (o:=1) hFA.blk
    have fx1:=frozen_of_blk (o:=1) hFA.blk
    have hxl1:=hFA.x_lt
    have hsz0:=sS.size
    have hszA:=sA.size
    have hat:D.fr.getD i dfr=({ D with stmt:=D.stmt+1 }:Fd).at_ i:=rfl
    obtain ⟨DA,hDA⟩:∃ DA:Fd,DA= { D with stmt:=D.stmt+1 }:=⟨_,rfl⟩
    have hDAl:DA.fr.length=D.fr.length:=by rw [hDA]
    rw [← hDA] at hFS hsmA hat
    have hhead:headF s i D=kindF2 s i (s.l.foldl (fun a e=>termF e.nodes e i a) (kindF1 s i DA)):=by rw [hDA];rfl
    rw [hhead] at hstep
    rw [← hDAl] at hFS hiD
    obtain ⟨DB,hDB⟩:∃ DB,DB=kindF1 s i DA:=⟨_,rfl⟩
    obtain ⟨DC,hDC⟩:∃ DC,DC=s.l.foldl (fun a e=>termF e.nodes e i a) DB:=⟨_,rfl⟩
    obtain ⟨DD,hDD⟩:∃ DD,DD=kindF2 s i DC:=⟨_,rfl⟩
    rw [← hDB,← hDC,← hDD] at hstep
    have hsmB:=sm_kind1 s i _ _ hsmA
    rw [← hDB] at hsmB
    have hsmC:=sm_fterms i s.l _ _ hsmB
    rw [← hDC] at hsmC
    have hsmD:=sm_kind2 s i _ _ hsmC
    rw [← hDD] at hsmD
    have hiB:i < DB.fr.length:=by rw [hDB,kindF1_len];exact hiD
    have hiC:i < DC.fr.length:=by rw [hDC];exact Nat.lt_of_lt_of_le hiB (fterms_len i s.l DB hiB)
    have hiDD:i < DD.fr.length:=by rw [hDD,kindF2_len];exact hiC
    have HDB:=Lib.hid hDB.symm;have HDC:=Lib.hid hDC.symm;have HDD:=Lib.hid hDD.symm;have Hstep:=Lib.hid hstep;have Hat:=Lib.hid hat
    have HSmA:=Lib.hid hsmA;have HSmB:=Lib.hid hsmB;have HSmC:=Lib.hid hsmC;have HSmD:=Lib.hid hsmD;have HiA:=Lib.hid hiD;have HiB:=Lib.hid hiB;have HiC:=Lib.hid hiC;have HiD:=Lib.hid hiDD;have Hnb:=Lib.hid hnb
    have HsA:=Lib.hid ((sS.trans sA).trans sSt)
    have HbU:=Lib.hid (sSt.un hbU)
    have hsAS:=sA.trans sSt
    have HpS:=Lib.hid (hsAS.strs HpW.out);have HxS:=Lib.hid (hsAS.exs HxW.out);have HbS:=Lib.hid (hsAS.stms HdW.out);have HeS:=Lib.hid (hsAS.stms HeW.out)
    have HFS:=Lib.hid hFS
    have Hblk:=Lib.hid ((sSt.blk hbU).trans hblk)
    generalize hsn:D.stmt=sn at x1 hst1 hst2 HFS HsA HbU HpS HxS HbS HeS Hblk
    clear hDA hDAl hhead hstep hDB hDC hDD hsmA hsmB hsmC hsmD hiD hiB hiC hiDD hnb hFS hblk hbU hsAS sA sSt hFA hF sS hat hN1 hsm hlen hmem hbt hbl hs hD hnd1 HpW HxW HdW HeW hrow hbA hsn hxr
    go_upto_region 4 with fail
    generalize hbx:wr.heap.size=bx at *
    generalize ((wr.alloc (.cells #[.string (toBA s.kind),.string (toBA s.name),.slice ap s.p.length cp,.slice ax s.l.length cx,.slice abd s.body.length cbd,.slice ae s.els.length ce] 82)).setCell ⟨x,1,none⟩ (.int .i64 (sn+1)))=WS at *
    clear q0 q1 q2 q3 q4 q5 x1 fx1 hxl1
    obtain ⟨g,cap,nm,Y,hY,rfl,hcap,cg,hbkY⟩:=HFS.out.look HiA.out
    have x0:=cell_of_blk (o:=0) HFS.out.blk
    obtain ⟨_,_,_,_,_,y10⟩:=HFS.out.fcell HiA.out
    rw [← hY] at y10
    obtain ⟨lp,hlp⟩:∃ lp,lp=(DA.fr.getD i dfr).loops:=⟨_,rfl⟩
    rw [← hlp] at y10
    have i0:(0:Int)≤(i:Int):=Int.natCast_nonneg _
    have i1:(i:Int) < (DA.fr.length:Int):=by have:=HiA.out;omega
    have hBS:B≤WS.heap.size:=by have:=HsA.out.size;omega
    have k0:=cell_of_blk (o:=0) Hblk.out
    have k1:=cell_of_blk (o:=1) Hblk.out
    have k2:=cell_of_blk (o:=2) Hblk.out
    have k3:=cell_of_blk (o:=3) Hblk.out
    have k4:=cell_of_blk (o:=4) Hblk.out
    have k5:=cell_of_blk (o:=5) Hblk.out
    obtain ⟨ax',cx',hvx,_,hxr⟩:=HxS.out
    injection hvx with e1 _ e2
    subst e1 e2
    have K0:=Lib.hid k0;have K1:=Lib.hid k1;have K2:=Lib.hid k2;have K3:=Lib.hid k3;have K4:=Lib.hid k4;have K5:=Lib.hid k5
    have Hlp:=Lib.hid hlp;have HY:=Lib.hid hY;have Hxr:=Lib.hid hxr
    have hN1:=HSmA.out.fr
    clear hlp hY hxr hbkY Hblk
    go_upto_block 2 with fail
    go_cut [] (fun W=>FAt WS c1 x B (kindF1 s i DA) W)
    case first=>
     by_cases hk:s.kind=sBreak
     · skip
       have v1:((toBA s.kind).toList == [98,114,101,97,107])=true:=by rw [m_toList,hk];decide
       skip
       have e1:kindF1 s i DA=DA.failIf (decide (lp=0)):=by
        unfold kindF1
        rw [if_pos (by rw [hk];simp),Hlp.out]
        rfl
       by_cases h0:lp=0
       · have t0:((lp:Int) == 0)=true:=by rw [h0];rfl
         have e2:kindF1 s i DA=DA.fail:=by rw [e1,h0];rfl
         have Hcall:=Lib.hid (fail_any HFS.out (by have:=HSmA.out.bad;omega) hBS)
         have E2:=Lib.hid e2
         clear e1 e2 hk h0
         go_wp2_with fail
         refine Hcall.out.mono ?_
         rintro _ w2 ⟨rfl,c2,vb2,hF2,s2⟩
         have HR:=Lib.hid (fAt_of hF2 (by show DA.fr.length=DA.fr.length;rfl) s2)
         clear hF2 s2 Hcall
         go_wp2_with fail
         go_meet
         case rel=>rw [E2.out];exact HR.out
       · have t0:((lp:Int) == 0)=false:=by rw [beq_eq_false_iff_ne];omega
         have e2:kindF1 s i DA=DA:=by rw [e1,decide_eq_false h0];rfl
         have E2:=Lib.hid e2
         clear e1 e2 hk h0
         go_wp2_with fail
         go_meet
         case rel=>rw [E2.out];exact fAt_of HFS.out rfl (FStp.refl _ _)
     by_cases hk:s.kind=sContinue
     · skip
       have v1:((toBA s.kind).toList == [98,114,101,97,107])=false:=by rw [m_toList,hk];decide
       have v2:((toBA s.kind).toList == [99,111,110,116,105,110,117,101])=true:=by rw [m_toList,hk];decide
       skip
       have e1:kindF1 s i DA=DA.failIf (decide (lp=0)):=by
        unfold kindF1
        rw [if_pos (by rw [hk];simp),Hlp.out]
        rfl
       by_cases h0:lp=0
       · have t0:((lp:Int) == 0)=true:=by rw [h0];rfl
         have e2:kindF1 s i DA=DA.fail:=by rw [e1,h0];rfl
         have Hcall:=Lib.hid (fail_any HFS.out (by have:=HSmA.out.bad;omega) hBS)
         have E2:=Lib.hid e2
         clear e1 e2 hk h0
         go_wp2_with fail
         refine Hcall.out.mono ?_
         rintro _ w2 ⟨rfl,c2,vb2,hF2,s2⟩
         have HR:=Lib.hid (fAt_of hF2 (by show DA.fr.length=DA.fr.length;rfl) s2)
         clear hF2 s2 Hcall
         go_wp2_with fail
         go_meet
         case rel=>rw [E2.out];exact HR.out
       · have t0:((lp:Int) == 0)=false:=by rw [beq_eq_false_iff_ne];omega
         have e2:kindF1 s i DA=DA:=by rw [e1,decide_eq_false h0];rfl
         have E2:=Lib.hid e2
         clear e1 e2 hk h0
         go_wp2_with fail
         go_meet
         case rel=>rw [E2.out];exact fAt_of HFS.out rfl (FStp.refl _ _)
     rename_i n1
     have n2:=hk;clear hk
     by_cases hk:s.kind=sReturn
     · skip
       have v1:((toBA s.kind).toList == [98,114,101,97,107])=false:=by rw [m_toList,hk];decide
       have v2:((toBA s.kind).toList == [99,111,110,116,105,110,117,101])=false:=by rw [m_toList,hk];decide
       have v3:((toBA s.kind).toList == [114,101,116,117,114,110])=true:=by rw [m_toList,hk];decide
       clear n1 n2
       have e1:kindF1 s i DA=DA.failIf (decide (i=0)):=by
        unfold kindF1
        rw [if_neg (by rw [hk];decide),if_pos hk]
       by_cases h0:i=0
       · have t0:((i:Int) == 0)=true:=by rw [h0];rfl
         have e2:kindF1 s i DA=DA.fail:=by rw [e1,decide_eq_true h0];rfl
         have Hcall:=Lib.hid (fail_any HFS.out (by have:=HSmA.out.bad;omega) hBS)
         have E2:=Lib.hid e2
         clear e1 e2 hk h0
         go_wp2_with fail
         refine Hcall.out.mono ?_
         rintro _ w2 ⟨rfl,c2,vb2,hF2,s2⟩
         have HR:=Lib.hid (fAt_of hF2 (by show DA.fr.length=DA.fr.length;rfl) s2)
         clear hF2 s2 Hcall
         go_wp2_with fail
         go_meet
         case rel=>rw [E2.out];exact HR.out
       · have t0:((i:Int) == 0)=false:=by rw [beq_eq_false_iff_ne];omega
         have e2:kindF1 s i DA=DA:=by rw [e1,decide_eq_false h0];rfl
         have E2:=Lib.hid e2
         clear e1 e2 hk h0
         go_wp2_with fail
         go_meet
         case rel=>rw [E2.out];exact fAt_of HFS.out rfl (FStp.refl _ _)
     have n3:=hk;clear hk
     by_cases hk:s.kind=sGlobal
     · skip
       have v1:((toBA s.kind).toList == [98,114,101,97,107])=false:=by rw [m_toList,hk];decide
       have v2:((toBA s.kind).toList == [99,111,110,116,105,110,117,101])=false:=by rw [m_toList,hk];decide
       have v3:((toBA s.kind).toList == [114,101,116,117,114,110])=false:=by rw [m_toList,hk];decide
       have v4:((toBA s.kind).toList == [103,108,111,98,97,108])=true:=by rw [m_toList,hk];decide
       clear n1 n2 n3
       have e1:kindF1 s i DA=saidF (DA.failIf (decide (i=0))) i true s.p:=by
        unfold kindF1
        rw [if_neg (by rw [hk];decide),if_neg (by rw [hk];decide),if_pos (by rw [hk];simp),hk]
        rfl
       by_cases h0:i=0
       · have t0:((i:Int) == 0)=true:=by rw [h0];rfl
         have e2:kindF1 s i DA=saidF DA.fail i true s.p:=by rw [e1,decide_eq_true h0];rfl
         have Hcall:=Lib.hid (fail_any HFS.out (by have:=HSmA.out.bad;omega) hBS)
         have E2:=Lib.hid e2
         clear e1 e2 hk h0
         go_wp2_with fail
         refine Hcall.out.mono ?_
         rintro _ w2 ⟨rfl,c2,vb2,hF2,s2⟩
         have Hs2:=Lib.hid s2
         have Hsd:=Lib.hid (said_glob hF2 (by show DA.fr.length=DA.fr.length;rfl) i HiA.out s _ ax abd ae s.l.length s.body.length s.els.length cx cbd ce (s2.strs HpS.out) (by omega) v4 (HSmA.out.failIf true) (by omega) (by have:=s2.size;omega))
         have k0:=(s2.cell (o:=0) HbU.out).trans K0.out
         have k1:=(s2.cell (o:=1) HbU.out).trans K1.out
         have k2:=(s2.cell (o:=2) HbU.out).trans K2.out
         have k3:=(s2.cell (o:=3) HbU.out).trans K3.out
         have k4:=(s2.cell (o:=4) HbU.out).trans K4.out
         have k5:=(s2.cell (o:=5) HbU.out).trans K5.out
         clear hF2 s2 Hcall
         go_wp2_with fail
         refine Hsd.out.mono ?_
         rintro _ w3 ⟨rfl,c3,vl3,vb3,ys3,vss3,hF3,s3⟩
         have HR:=Lib.hid (fAt_of hF3 rfl (Hs2.out.trans s3))
         clear hF3 s3 Hsd
         go_wp2_with fail
         go_meet
         case rel=>rw [E2.out];exact HR.out
       · have t0:((i:Int) == 0)=false:=by rw [beq_eq_false_iff_ne];omega
         have e2:kindF1 s i DA=saidF DA i true s.p:=by rw [e1,decide_eq_false h0];rfl
         have E2:=Lib.hid e2
         have Hsd:=Lib.hid (said_glob HFS.out rfl i HiA.out s _ ax abd ae s.l.length s.body.length s.els.length cx cbd ce HpS.out (by omega) v4 HSmA.out (by omega) hBS)
         clear e1 e2 hk h0
         go_wp2_with fail
         refine Hsd.out.mono ?_
         rintro _ w3 ⟨rfl,c3,vl3,vb3,ys3,vss3,hF3,s3⟩
         have HR:=Lib.hid (fAt_of hF3 rfl s3)
         clear hF3 s3 Hsd
         go_wp2_with fail
         go_meet
         case rel=>rw [E2.out];exact HR.out
     have n4:=hk;clear hk
     by_cases hk:s.kind=sNonlocal
     · skip
       have v1:((toBA s.kind).toList == [98,114,101,97,107])=false:=by rw [m_toList,hk];decide
       have v2:((toBA s.kind).toList == [99,111,110,116,105,110,117,101])=false:=by rw [m_toList,hk];decide
       have v3:((toBA s.kind).toList == [114,101,116,117,114,110])=false:=by rw [m_toList,hk];decide
       have v4:((toBA s.kind).toList == [103,108,111,98,97,108])=false:=by rw [m_toList,hk];decide
       have v5:((toBA s.kind).toList == [110,111,110,108,111,99,97,108])=true:=by rw [m_toList,hk];decide
       clear n1 n2 n3 n4
       have e1:kindF1 s i DA=saidF (DA.failIf (decide (i=0))) i false s.p:=by
        unfold kindF1
        rw [if_neg (by rw [hk];decide),if_neg (by rw [hk];decide),if_pos (by rw [hk];simp),hk]
        rfl
       by_cases h0:i=0
       · have t0:((i:Int) == 0)=true:=by rw [h0];rfl
         have e2:kindF1 s i DA=saidF DA.fail i false s.p:=by rw [e1,decide_eq_true h0];rfl
         have Hcall:=Lib.hid (fail_any HFS.out (by have:=HSmA.out.bad;omega) hBS)
         have E2:=Lib.hid e2
         clear e1 e2 hk h0
         go_wp2_with fail
         refine Hcall.out.mono ?_
         rintro _ w2 ⟨rfl,c2,vb2,hF2,s2⟩
         have Hs2:=Lib.hid s2
         have Hsd:=Lib.hid (said_nonl hF2 (by show DA.fr.length=DA.fr.length;rfl) i HiA.out s _ ax abd ae s.l.length s.body.length s.els.length cx cbd ce (s2.strs HpS.out) (by omega) v4 (HSmA.out.failIf true) (by omega) (by have:=s2.size;omega))
         have k0:=(s2.cell (o:=0) HbU.out).trans K0.out
         have k1:=(s2.cell (o:=1) HbU.out).trans K1.out
         have k2:=(s2.cell (o:=2) HbU.out).trans K2.out
         have k3:=(s2.cell (o:=3) HbU.out).trans K3.out
         have k4:=(s2.cell (o:=4) HbU.out).trans K4.out
         have k5:=(s2.cell (o:=5) HbU.out).trans K5.out
         clear hF2 s2 Hcall
         go_wp2_with fail
         refine Hsd.out.mono ?_
         rintro _ w3 ⟨rfl,c3,vl3,vb3,ys3,vss3,hF3,s3⟩
         have HR:=Lib.hid (fAt_of hF3 rfl (Hs2.out.trans s3))
         clear hF3 s3 Hsd
         go_wp2_with fail
         go_meet
         case rel=>rw [E2.out];exact HR.out
       · have t0:((i:Int) == 0)=false:=by rw [beq_eq_false_iff_ne];omega
         have e2:kindF1 s i DA=saidF DA i false s.p:=by rw [e1,decide_eq_false h0];rfl
         have E2:=Lib.hid e2
         have Hsd:=Lib.hid (said_nonl HFS.out rfl i HiA.out s _ ax abd ae s.l.length s.body.length s.els.length cx cbd ce HpS.out (by omega) v4 HSmA.out (by omega) hBS)
         clear e1 e2 hk h0
         go_wp2_with fail
         refine Hsd.out.mono ?_
         rintro _ w3 ⟨rfl,c3,vl3,vb3,ys3,vss3,hF3,s3⟩
         have HR:=Lib.hid (fAt_of hF3 rfl s3)
         clear hF3 s3 Hsd
         go_wp2_with fail
         go_meet
         case rel=>rw [E2.out];exact HR.out
     have v1:((toBA s.kind).toList == [98,114,101,97,107])=false:=m_ne n1
     have v2:((toBA s.kind).toList == [99,111,110,116,105,110,117,101])=false:=m_ne n2
     have v3:((toBA s.kind).toList == [114,101,116,117,114,110])=false:=m_ne n3
     have v4:((toBA s.kind).toList == [103,108,111,98,97,108])=false:=m_ne n4
     have v5:((toBA s.kind).toList == [110,111,110,108,111,99,97,108])=false:=m_ne hk
     have e1:kindF1 s i DA=DA:=by
      unfold kindF1
      rw [if_neg (by rintro (h | h);exact n1 h;exact n2 h),if_neg n3,if_neg (by rintro (h | h);exact n4 h;exact hk h)]
     have E1:=Lib.hid e1
     clear e1 n1 n2 n3 n4 hk
     go_wp2_with fail
     go_meet
     case rel=>rw [E1.out];exact fAt_of HFS.out rfl (FStp.refl _ _)
    case rest=>
     obtain ⟨c2,vl2,vb2,ys2,vss2,hF2,s2⟩:=hcut
     rw [HDB.out] at hF2
     have k3:=(s2.cell (o:=3) HbU.out).trans K3.out
     have HF2:=Lib.hid hF2;have HS2:=Lib.hid s2
     clear hF2 s2 k0 k1 k2 k4 k5 y10 x0 cg
     go_wp2_with fail
     skip
     go_loopw [63] (fun t wr=>∃ (q:Nat) (c3:Clr) (vl3 vb3:Value) (ys3:List Nat) (vss3:Nat→Nat→Value),q≤s.l.length∧t= .int .i64 q∧FdC wr x c3 B ((s.l.take q).foldl (fun a e=>termF e.nodes e i a) DB) ((s.l.take q).foldl (fun a e=>termF e.nodes e i a) DB).fr.length vl3 vb3 ys3 vss3∧FStp c1 c3 WS wr) (fun t _=>s.l.length - (intOf t).toNat)
     case atStart=>exact ⟨0,_,_,_,_,_,by omega,rfl,HF2.out,HS2.out⟩
     case round=>
      obtain ⟨q,c3,vl3,vb3,ys3,vss3,hq,rfl,hF3,s3⟩:=hrel
      by_cases hql:q < s.l.length
      · have t1:decide ((q:Int) < (s.l.length:Int))=true:=by simp;omega
        obtain ⟨bx,ox,rfl,hbX,hxrow⟩:=Hxr.out (by omega)
        obtain ⟨vp5,vz5,p0,p1,p2,p3,p4,hp5,hx5⟩:=(hxrow.at_ _ _ _ q hql).open_
        have Hp5:=Lib.hid hp5;have Hx5:=Lib.hid hx5
        obtain ⟨ap5,cp5,rfl,_⟩:=hp5
        obtain ⟨al5,cl5,rfl,_⟩:=hx5
        have p0:=(s3.cell hbX).trans p0
        have p1:=(s3.cell hbX).trans p1
        have p2:=(s3.cell hbX).trans p2
        have p3:=(s3.cell hbX).trans p3
        have p4:=(s3.cell hbX).trans p4
        have hbA:=(Below.refl wr.heap.size wr).alloc (Nat.le_refl _) (.cells #[.string (toBA s.l[q].op),.int .i64 s.l[q].n,.string (toBA s.l[q].s),.slice ap5 s.l[q].p.length cp5,.slice al5 s.l[q].l.length cl5] 140)
        obtain ⟨hFA,sA⟩:=hF3.grow hbA
        have hsA:=s3.trans sA
        have hm:=exs_mem (List.getElem_mem hql)
        have hbt:=exsBulk_take s.l q hql
        have hbl:exsBulk (s.l.take (q+1))≤exsBulk s.l:=exsBulk_le _ _
        have hsm:=sm_fterms i (s.l.take q) _ DB HSmB.out
        have hln:=fterms_len i (s.l.take q) DB HiB.out
        have hcall:=fterm_all s.l[q].nodes s.l[q] i _ x B _ _ c3 _ vl3 vb3 _ _ ys3 vss3 (Nat.le_refl _) hFA rfl (Nat.lt_of_lt_of_le HiB.out hln) hsm (by omega) (by have:=hsA.size;omega) (hsA.strs Hp5.out) (hsA.exs Hx5.out)
        rw [← fold_take (fun a e=>termF e.nodes e i a) s.l DB q hql] at hcall
        have Hcall:=Lib.hid hcall;have HsA:=Lib.hid hsA
        clear hcall hsA hFA sA hF3 s3 hxrow hm hbt hbl hsm hln hbA
        go_wp2_with fail
        refine Hcall.out.mono ?_
        rintro _ w5 ⟨rfl,c5,vl5,vb5,ys5,vss5,hF5,s5⟩
        have HF5:=Lib.hid hF5;have HS5:=Lib.hid (HsA.out.trans s5)
        clear hF5 s5 Hcall p0 p1 p2 p3 p4
        go_wp2_with fail
        go_roundw
        case rel=>exact ⟨q+1,c5,vl5,vb5,ys5,vss5,by omega,by go_num,HF5.out,HS5.out⟩
        case measure=>simp [intOf];omega
      · have t1:decide ((q:Int) < (s.l.length:Int))=false:=by simp;omega
        obtain rfl:q=s.l.length:=by omega
        rw [List.take_of_length_le (Nat.le_refl _)] at hF3
        have HF3:=Lib.hid hF3;have HS3:=Lib.hid s3
        clear hF3 s3
        skip
        have hDC:s.l.foldl (fun a e=>termF e.nodes e i a) DB=DC:=HDC.out
        rw [hDC] at HF3
        clear hDC
        have k0:=(HS3.out.cell (o:=0) HbU.out).trans K0.out
        have k1:=(HS3.out.cell (o:=1) HbU.out).trans K1.out
        go_upto_block 5 with fail
        go_cut [] (fun W=>FAt WS c1 x B (kindF2 s i DC) W)
        case first=>
         by_cases hk:s.kind=sSet
         · skip
           have v1:((toBA s.kind).toList == [115,101,116])=true:=by rw [m_toList,hk];decide
           skip
           have e2:kindF2 s i DC=DC.bind i s.name:=by
            unfold kindF2
            rw [if_pos (by rw [hk];simp)]
           have E2:=Lib.hid e2
           have Hcall:=Lib.hid (bind_any HF3.out rfl i HiC.out s.name HSmC.out (by omega) (by have:=HS3.out.size;omega))
           clear e2 hk
           go_wp2_with fail
           refine Hcall.out.mono ?_
           rintro _ w6 ⟨rfl,c6,vl6,vb6,ys6,vss6,hF6,s6⟩
           have HR:=Lib.hid (fAt_of hF6 rfl (HS3.out.trans s6))
           clear hF6 s6 Hcall
           go_wp2_with fail
           go_meet
           case rel=>rw [E2.out];exact HR.out
         have n1:=hk;clear hk
         by_cases hk:s.kind=sFor
         · skip
           have v1:((toBA s.kind).toList == [115,101,116])=false:=by rw [m_toList,hk];decide
           have v2:((toBA s.kind).toList == [102,111,114])=true:=by rw [m_toList,hk];decide
           clear n1
           have e2:kindF2 s i DC=DC.bind i s.name:=by
            unfold kindF2
            rw [if_pos (by rw [hk];simp)]
           have E2:=Lib.hid e2
           have Hcall:=Lib.hid (bind_any HF3.out rfl i HiC.out s.name HSmC.out (by omega) (by have:=HS3.out.size;omega))
           clear e2 hk
           go_wp2_with fail
           refine Hcall.out.mono ?_
           rintro _ w6 ⟨rfl,c6,vl6,vb6,ys6,vss6,hF6,s6⟩
           have HR:=Lib.hid (fAt_of hF6 rfl (HS3.out.trans s6))
           clear hF6 s6 Hcall
           go_wp2_with fail
           go_meet
           case rel=>rw [E2.out];exact HR.out
         have n2:=hk;clear hk
         by_cases hk:s.kind=sDef
         · skip
           have v1:((toBA s.kind).toList == [115,101,116])=false:=by rw [m_toList,hk];decide
           have v2:((toBA s.kind).toList == [102,111,114])=false:=by rw [m_toList,hk];decide
           have v3:((toBA s.kind).toList == [100,101,102])=true:=by rw [m_toList,hk];decide
           clear n1 n2
           have e2:kindF2 s i DC=DC.bind i s.name:=by
            unfold kindF2
            rw [if_pos (by rw [hk];simp)]
           have E2:=Lib.hid e2
           have Hcall:=Lib.hid (bind_any HF3.out rfl i HiC.out s.name HSmC.out (by omega) (by have:=HS3.out.size;omega))
           clear e2 hk
           go_wp2_with fail
           refine Hcall.out.mono ?_
           rintro _ w6 ⟨rfl,c6,vl6,vb6,ys6,vss6,hF6,s6⟩
           have HR:=Lib.hid (fAt_of hF6 rfl (HS3.out.trans s6))
           clear hF6 s6 Hcall
           go_wp2_with fail
           go_meet
           case rel=>rw [E2.out];exact HR.out
         have v1:((toBA s.kind).toList == [115,101,116])=false:=m_ne n1
         have v2:((toBA s.kind).toList == [102,111,114])=false:=m_ne n2
         have v3:((toBA s.kind).toList == [100,101,102])=false:=m_ne hk
         have e2:kindF2 s i DC=DC:=by
          unfold kindF2
          rw [if_neg (by rintro (h | h | h);exact n1 h;exact n2 h;exact hk h)]
         have E2:=Lib.hid e2
         clear e2 n1 n2 hk
         go_wp2_with fail
         go_meet
         case rel=>rw [E2.out];exact fAt_of HF3.out rfl HS3.out
        case rest=>
         obtain ⟨c4,vl4,vb4,ys4,vss4,hF4,s4⟩:=hcut
         have hDD:kindF2 s i DC=DD:=HDD.out
         rw [hDD] at hF4
         clear hDD
         have hyk:=HFS.out.same HiA.out s4 hF4
         rw [← HY.out] at hyk
         have HF4:=Lib.hid hF4;have HS4:=Lib.hid s4;have HYK:=Lib.hid hyk
         have k0:=(s4.cell (o:=0) HbU.out).trans K0.out
         have k1:=(s4.cell (o:=1) HbU.out).trans K1.out
         have k2:=(s4.cell (o:=2) HbU.out).trans K2.out
         have k4:=(s4.cell (o:=4) HbU.out).trans K4.out
         have k5:=(s4.cell (o:=5) HbU.out).trans K5.out
         have hsz4:=s4.size
         have hb4:=s4.stms HbS.out
         have he4:=s4.stms HeS.out
         have hp4:=s4.strs HpS.out
         have HbU4:=Lib.hid (s4.un HbU.out);have Hb4:=Lib.hid hb4;have He4:=Lib.hid he4;have Hp4:=Lib.hid hp4
         clear hF4 s4 hyk hb4 he4 hp4 HF3 HS3 HF2 HS2
         skip
         by_cases hk:s.kind=sWhile
         · skip
           have v1:((toBA s.kind).toList == [119,104,105,108,101])=true:=by rw [m_toList,hk];decide
           skip
           have e3:kindF3 f s i DD=(blockF f s.body i (DD.set i fun x=> { x with loops:=x.loops+1 })).set i fun x=> { x with loops:=x.loops - 1 }:=by
            unfold kindF3
            rw [if_pos (by rw [hk];simp)]
           have E3:=Lib.hid e3.symm
           clear e3 hk
           obtain ⟨_,_,_,_,_,y10⟩:=HF4.out.fcell HiD.out
           rw [HYK.out] at y10
           obtain ⟨nm4,hbk4⟩:=(HF4.out.frs i HiD.out).blk
           rw [HYK.out] at hbk4
           have f10:=frozen_of_blk (o:=10) hbk4
           have yl4:=lt_of_blk hbk4
           obtain ⟨lq,hlq⟩:∃ lq,lq=(DD.fr.getD i dfr).loops:=⟨_,rfl⟩
           have hlqN:=HSmD.out.loops i
           rw [← hlq] at y10 hlqN
           have hset:=HF4.out.setLoops i HYK.out.symm HiD.out (lq+1)
           have hcast:((lq+1:Nat):Int)=(lq:Int)+1:=by omega
           rw [hcast,← setF_congr DD i (fun x=> { x with loops:=x.loops+1 }) (fun x=> { x with loops:=lq+1 }) (by rw [hlq])] at hset
           have HSm5:=Lib.hid (sm_loops HSmD.out i);have Hset:=Lib.hid hset;have Hlq:=Lib.hid hlq
           clear hset hcast hbk4 hlq
           go_upto_region 32 with fail
           have k4:=(Hset.out.2.cell (o:=4) HbU4.out).trans k4
           have hcall:=Hf.out s.body i _ x B _ _ c4 _ vl4 vb4 _ ys4 vss4 Hnb.out.1 Hset.out.1 (setF_len _ _ _).symm HiD.out HSm5.out (by omega) (by have:=Hset.out.2.size;omega) (Hset.out.2.stms Hb4.out)
           have Hcall:=Lib.hid hcall
           clear hcall y10 f10 yl4
           go_wp2_with fail
           refine Hcall.out.mono ?_
           rintro _ w6 ⟨rfl,c6,vl6,vb6,ys6,vss6,hF6,s6⟩
           have hi5:i < (DD.set i fun x=> { x with loops:=x.loops+1 }).fr.length:=by rw [setF_len];exact HiD.out
           have hkl:=kl_block f s.body i (DD.set i fun x=> { x with loops:=x.loops+1 })
           have hi6:=Nat.lt_of_lt_of_le hi5 hkl.len
           have hlp6:=hkl.lp i hi5
           rw [setF_at _ _ _ _ HiD.out,if_pos rfl] at hlp6
           have hsm6:=(sm_block f s.body i _ _ HSm5.out).loops i
           have hyk6:=Hset.out.1.same hi5 s6 hF6
           rw [HYK.out] at hyk6
           have HSS:=Lib.hid (HS4.out.trans (Hset.out.2.trans s6))
           obtain ⟨DE,hDE⟩:∃ DE,DE=blockF f s.body i (DD.set i fun x=> { x with loops:=x.loops+1 }):=⟨_,rfl⟩
           have hE:=E3.out
           rw [← hDE] at hF6 hi6 hlp6 hsm6 hE
           obtain ⟨_,_,_,_,_,y10⟩:=hF6.fcell hi6
           rw [hyk6] at y10
           obtain ⟨nm6,hbk6⟩:=(hF6.frs i hi6).blk
           rw [hyk6] at hbk6
           have f10:=frozen_of_blk (o:=10) hbk6
           have yl6:=lt_of_blk hbk6
           obtain ⟨lr,hlr⟩:∃ lr,lr=(DE.fr.getD i dfr).loops:=⟨_,rfl⟩
           rw [← hlr] at y10 hlp6 hsm6
           have hlr1:1≤lr:=by rw [hlp6];exact Nat.le_add_left _ _
           have hlrb:lr≤40000000:=by omega
           have hset:=hF6.setLoops i hyk6.symm hi6 (lr - 1)
           have hcast:((lr - 1:Nat):Int)=(lr:Int) - 1:=by omega
           rw [hcast,← setF_congr DE i (fun x=> { x with loops:=x.loops - 1 }) (fun x=> { x with loops:=lr - 1 }) (by rw [hlr])] at hset
           have HR:=Lib.hid (fAt_of hset.1 (setF_len _ _ _).symm (HSS.out.trans hset.2));have E3:=Lib.hid hE
           clear hset hcast hbk6 hF6 s6 hyk6 hsm6 hlp6 Hcall hDE hlr hE hkl hi5 hi6 HSS Hset
           obtain ⟨c9,vl9,vb9,ys9,vss9,hF9,s9⟩:=HR.out
           rw [E3.out,← Hstep.out] at hF9
           have HR1:=Lib.hid hF9;have HR2:=Lib.hid (HsA.out.trans s9)
           clear hF9 s9 HR
           go_wp2_with fail
           go_roundw
           case rel=>exact ⟨j+1,c9,vl9,vb9,ys9,vss9,by omega,by go_num,HR1.out,HR2.out⟩
           case measure=>simp [intOf];omega
         have n1:=hk;clear hk
         by_cases hk:s.kind=sFor
         · skip
           have v1:((toBA s.kind).toList == [119,104,105,108,101])=false:=by rw [m_toList,hk];decide
           have v2:((toBA s.kind).toList == [102,111,114])=true:=by rw [m_toList,hk];decide
           clear n1
           have e3:kindF3 f s i DD=(blockF f s.body i (DD.set i fun x=> { x with loops:=x.loops+1 })).set i fun x=> { x with loops:=x.loops - 1 }:=by
            unfold kindF3
            rw [if_pos (by rw [hk];simp)]
           have E3:=Lib.hid e3.symm
           clear e3 hk
           obtain ⟨_,_,_,_,_,y10⟩:=HF4.out.fcell HiD.out
           rw [HYK.out] at y10
           obtain ⟨nm4,hbk4⟩:=(HF4.out.frs i HiD.out).blk
           rw [HYK.out] at hbk4
           have f10:=frozen_of_blk (o:=10) hbk4
           have yl4:=lt_of_blk hbk4
           obtain ⟨lq,hlq⟩:∃ lq,lq=(DD.fr.getD i dfr).loops:=⟨_,rfl⟩
           have hlqN:=HSmD.out.loops i
           rw [← hlq] at y10 hlqN
           have hset:=HF4.out.setLoops i HYK.out.symm HiD.out (lq+1)
           have hcast:((lq+1:Nat):Int)=(lq:Int)+1:=by omega
           rw [hcast,← setF_congr DD i (fun x=> { x with loops:=x.loops+1 }) (fun x=> { x with loops:=lq+1 }) (by rw [hlq])] at hset
           have HSm5:=Lib.hid (sm_loops HSmD.out i);have Hset:=Lib.hid hset;have Hlq:=Lib.hid hlq
           clear hset hcast hbk4 hlq
           go_upto_region 32 with fail
           have k4:=(Hset.out.2.cell (o:=4) HbU4.out).trans k4
           have hcall:=Hf.out s.body i _ x B _ _ c4 _ vl4 vb4 _ ys4 vss4 Hnb.out.1 Hset.out.1 (setF_len _ _ _).symm HiD.out HSm5.out (by omega) (by have:=Hset.out.2.size;omega) (Hset.out.2.stms Hb4.out)
           have Hcall:=Lib.hid hcall
           clear hcall y10 f10 yl4
           go_wp2_with fail
           refine Hcall.out.mono ?_
           rintro _ w6 ⟨rfl,c6,vl6,vb6,ys6,vss6,hF6,s6⟩
           have hi5:i < (DD.set i fun x=> { x with loops:=x.loops+1 }).fr.length:=by rw [setF_len];exact HiD.out
           have hkl:=kl_block f s.body i (DD.set i fun x=> { x with loops:=x.loops+1 })
           have hi6:=Nat.lt_of_lt_of_le hi5 hkl.len
           have hlp6:=hkl.lp i hi5
           rw [setF_at _ _ _ _ HiD.out,if_pos rfl] at hlp6
           have hsm6:=(sm_block f s.body i _ _ HSm5.out).loops i
           have hyk6:=Hset.out.1.same hi5 s6 hF6
           rw [HYK.out] at hyk6
           have HSS:=Lib.hid (HS4.out.trans (Hset.out.2.trans s6))
           obtain ⟨DE,hDE⟩:∃ DE,DE=blockF f s.body i (DD.set i fun x=> { x with loops:=x.loops+1 }):=⟨_,rfl⟩
           have hE:=E3.out
           rw [← hDE] at hF6 hi6 hlp6 hsm6 hE
           obtain ⟨_,_,_,_,_,y10⟩:=hF6.fcell hi6
           rw [hyk6] at y10
           obtain ⟨nm6,hbk6⟩:=(hF6.frs i hi6).blk
           rw [hyk6] at hbk6
           have f10:=frozen_of_blk (o:=10) hbk6
           have yl6:=lt_of_blk hbk6
           obtain ⟨lr,hlr⟩:∃ lr,lr=(DE.fr.getD i dfr).loops:=⟨_,rfl⟩
           rw [← hlr] at y10 hlp6 hsm6
           have hlr1:1≤lr:=by rw [hlp6];exact Nat.le_add_left _ _
           have hlrb:lr≤40000000:=by omega
           have hset:=hF6.setLoops i hyk6.symm hi6 (lr - 1)
           have hcast:((lr - 1:Nat):Int)=(lr:Int) - 1:=by omega
           rw [hcast,← setF_congr DE i (fun x=> { x with loops:=x.loops - 1 }) (fun x=> { x with loops:=lr - 1 }) (by rw [hlr])] at hset
           have HR:=Lib.hid (fAt_of hset.1 (setF_len _ _ _).symm (HSS.out.trans hset.2));have E3:=Lib.hid hE
           clear hset hcast hbk6 hF6 s6 hyk6 hsm6 hlp6 Hcall hDE hlr hE hkl hi5 hi6 HSS Hset
           obtain ⟨c9,vl9,vb9,ys9,vss9,hF9,s9⟩:=HR.out
           rw [E3.out,← Hstep.out] at hF9
           have HR1:=Lib.hid hF9;have HR2:=Lib.hid (HsA.out.trans s9)
           clear hF9 s9 HR
           go_wp2_with fail
           go_roundw
           case rel=>exact ⟨j+1,c9,vl9,vb9,ys9,vss9,by omega,by go_num,HR1.out,HR2.out⟩
           case measure=>simp [intOf];omega
         have n2:=hk;clear hk
         by_cases hk:s.kind=sDef
         · skip
           have v1:((toBA s.kind).toList == [119,104,105,108,101])=false:=by rw [m_toList,hk];decide
           have v2:((toBA s.kind).toList == [102,111,114])=false:=by rw [m_toList,hk];decide
           have v3:((toBA s.kind).toList == [100,101,102])=true:=by rw [m_toList,hk];decide
           have e3:kindF3 f s i DD=blockF f s.body DD.fr.length (DD.open_ i s.p):=by
            unfold kindF3
            rw [if_neg (by rintro (h | h);exact n1 h;exact n2 h),if_pos hk]
           have E3:=Lib.hid e3.symm
           clear e3 hk n1 n2
           go_upto_region 35 with fail
           have hgd:=HF4.out.grow (Below.refl _ _).drew
           have hop:=open_any hgd.1 rfl (toBA s.name) (i:Int) s.p _ (hgd.2.strs Hp4.out) (by omega) HSmD.out (by omega) (by show B≤wc.heap.size;omega)
           have Hop:=Lib.hid hop;have HU4:=Lib.hid (hgd.2.un HbU4.out);have Hb5:=Lib.hid (hgd.2.stms Hb4.out);have HG:=Lib.hid (HS4.out.trans hgd.2)
           have hszd:B≤wc.drew.heap.size:=by show B≤wc.heap.size;omega
           clear hop hgd
           go_region_held3 (fun w'=>w'.cell? ⟨bx,1,none⟩=some (.string (toBA s.name))∧w'.cell? ⟨bx,2,none⟩=some (.slice ap s.p.length cp)∧w'.cell? ⟨bx,4,none⟩=some (.slice abd s.body.length cbd)) (go_keep)
            ((first
              | (go_at_call 72;(with_reducible refine Hop.out.mono ?_);rintro _ w6 ⟨rfl,c6,vl6,vb6,ys6,vss6,hF6,s6⟩;have h61:w6.cell? ⟨bx,1,none⟩=some (.string (toBA s.name)):=(s6.cell (o:=1) HU4.out).trans k1;have h62:w6.cell? ⟨bx,2,none⟩=some (.slice ap s.p.length cp):=(s6.cell (o:=2) HU4.out).trans k2;have h64:w6.cell? ⟨bx,4,none⟩=some (.slice abd s.body.length cbd):=(s6.cell (o:=4) HU4.out).trans k4;have HF6:=Lib.hid hF6;have HS6:=Lib.hid s6;have HC:=Lib.hid (Hf.out s.body DD.fr.length w6 x B _ _ c6 _ vl6 vb6 _ ys6 vss6 Hnb.out.1 hF6 rfl (Nat.lt_of_lt_of_le (Nat.lt_succ_self _) (Nat.le_of_eq (open_len' _ _ _).symm)) (HSmD.out.open_ (i:Int) s.p) (by omega) (by have:=s6.size;omega) (s6.stms Hb5.out));clear hF6 s6)
              | (go_at_call 73;(with_reducible refine HC.out.mono ?_);rintro _ w7 ⟨rfl,c7,vl7,vb7,ys7,vss7,hF7,s7⟩;have h71:w7.cell? ⟨bx,1,none⟩=some (.string (toBA s.name)):=(s7.cell (o:=1) (HS6.out.un HU4.out)).trans h61;have h72:w7.cell? ⟨bx,2,none⟩=some (.slice ap s.p.length cp):=(s7.cell (o:=2) (HS6.out.un HU4.out)).trans h62;have h74:w7.cell? ⟨bx,4,none⟩=some (.slice abd s.body.length cbd):=(s7.cell (o:=4) (HS6.out.un HU4.out)).trans h64;have HF7:=Lib.hid hF7;have HS7:=Lib.hid s7;clear hF7 s7)))
           have HR:=Lib.hid (fAt_of HF7.out rfl ((HG.out.trans HS6.out).trans HS7.out))
           clear HF7 HS7 HF6 HS6 Hop
           obtain ⟨c9,vl9,vb9,ys9,vss9,hF9,s9⟩:=HR.out
           rw [E3.out,← Hstep.out] at hF9
           have HR1:=Lib.hid hF9;have HR2:=Lib.hid (HsA.out.trans s9)
           clear hF9 s9 HR
           go_wp2_with fail
           go_roundw
           case rel=>exact ⟨j+1,c9,vl9,vb9,ys9,vss9,by omega,by go_num,HR1.out,HR2.out⟩
           case measure=>simp [intOf];omega
         have n3:=hk;clear hk
         have v1:((toBA s.kind).toList == [119,104,105,108,101])=false:=m_ne n1
         have v2:((toBA s.kind).toList == [102,111,114])=false:=m_ne n2
         have v3:((toBA s.kind).toList == [100,101,102])=false:=m_ne n3
         have e3:kindF3 f s i DD=blockF f s.els i (if s.kind=sTry then (blockF f s.body i DD).bind i s.name else blockF f s.body i DD):=by
          unfold kindF3
          rw [if_neg (by rintro (h | h);exact n1 h;exact n2 h),if_neg n3]
         clear n1 n2 n3
         by_cases hk:s.kind=sTry
         · skip
           have v4:((toBA s.kind).toList == [116,114,121])=true:=by rw [m_toList,hk];decide
           rw [if_pos hk] at e3
           have E3:=Lib.hid e3.symm
           clear e3
           have hcall:=Hf.out s.body i _ x B _ _ c4 _ vl4 vb4 _ ys4 vss4 Hnb.out.1 HF4.out rfl HiD.out HSmD.out (by omega) (by omega) Hb4.out
           have Hcall:=Lib.hid hcall
           have hi6:=Nat.lt_of_lt_of_le HiD.out (block_len f s.body i DD HiD.out)
           have hsm6:=sm_block f s.body i _ _ HSmD.out
           clear hcall hk
           go_wp2_with fail
           refine Hcall.out.mono ?_
           rintro _ w6 ⟨rfl,c6,vl6,vb6,ys6,vss6,hF6,s6⟩
           have hss:=HS4.out.trans s6
           have k0:=(hss.cell (o:=0) HbU.out).trans K0.out
           have k1:=(hss.cell (o:=1) HbU.out).trans K1.out
           have HF6:=Lib.hid hF6;have HS6:=Lib.hid hss;have HiF:=Lib.hid hi6;have HSm6:=Lib.hid hsm6
           have hsz6:=hss.size
           clear hF6 s6 hss hi6 hsm6 Hcall
           have hb7:=bind_any HF6.out rfl i HiF.out s.name HSm6.out (by omega) (by omega)
           have Hcall:=Lib.hid hb7
           have HSm7:=Lib.hid (HSm6.out.bind i s.name)
           have HiG:=Lib.hid (show i < ((blockF f s.body i DD).bind i s.name).fr.length by rw [bindF_len];exact HiF.out)
           clear hb7
           go_wp2_with fail
           refine Hcall.out.mono ?_
           rintro _ w7 ⟨rfl,c7,vl7,vb7,ys7,vss7,hF7,s7⟩
           have HF7:=Lib.hid hF7;have HS7:=Lib.hid (HS6.out.trans s7)
           clear hF7 s7 HF6 HS6 Hcall
           skip
           have hcall:=Hf.out s.els i _ x B _ _ c7 _ vl7 vb7 _ ys7 vss7 Hnb.out.2 HF7.out rfl HiG.out HSm7.out (by omega) (by have:=HS7.out.size;omega) (HS7.out.stms HeS.out)
           have Hcall2:=Lib.hid hcall
           have k5:=(HS7.out.cell (o:=5) HbU.out).trans K5.out
           clear hcall
           go_wp2_with fail
           refine Hcall2.out.mono ?_
           rintro _ w8 ⟨rfl,c8,vl8,vb8,ys8,vss8,hF8,s8⟩
           have HR:=Lib.hid (fAt_of hF8 rfl (HS7.out.trans s8))
           clear hF8 s8 Hcall2 k5
           obtain ⟨c9,vl9,vb9,ys9,vss9,hF9,s9⟩:=HR.out
           rw [E3.out,← Hstep.out] at hF9
           have HR1:=Lib.hid hF9;have HR2:=Lib.hid (HsA.out.trans s9)
           clear hF9 s9 HR
           go_wp2_with fail
           go_roundw
           case rel=>exact ⟨j+1,c9,vl9,vb9,ys9,vss9,by omega,by go_num,HR1.out,HR2.out⟩
           case measure=>simp [intOf];omega
         · have v4:((toBA s.kind).toList == [116,114,121])=false:=m_ne hk
           rw [if_neg hk] at e3
           have E3:=Lib.hid e3.symm
           clear e3
           have hcall:=Hf.out s.body i _ x B _ _ c4 _ vl4 vb4 _ ys4 vss4 Hnb.out.1 HF4.out rfl HiD.out HSmD.out (by omega) (by omega) Hb4.out
           have Hcall:=Lib.hid hcall
           have hi6:=Nat.lt_of_lt_of_le HiD.out (block_len f s.body i DD HiD.out)
           have hsm6:=sm_block f s.body i _ _ HSmD.out
           clear hcall hk
           go_wp2_with fail
           refine Hcall.out.mono ?_
           rintro _ w6 ⟨rfl,c6,vl6,vb6,ys6,vss6,hF6,s6⟩
           have hss:=HS4.out.trans s6
           have k0:=(hss.cell (o:=0) HbU.out).trans K0.out
           have k1:=(hss.cell (o:=1) HbU.out).trans K1.out
           have HF6:=Lib.hid hF6;have HS6:=Lib.hid hss;have HiF:=Lib.hid hi6;have HSm6:=Lib.hid hsm6
           have hsz6:=hss.size
           clear hF6 s6 hss hi6 hsm6 Hcall
           have HF7:=HF6;have HS7:=HS6;have HiG:=HiF;have HSm7:=HSm6
           have hcall:=Hf.out s.els i _ x B _ _ c6 _ vl6 vb6 _ ys6 vss6 Hnb.out.2 HF7.out rfl HiG.out HSm7.out (by omega) (by have:=HS7.out.size;omega) (HS7.out.stms HeS.out)
           have Hcall2:=Lib.hid hcall
           have k5:=(HS7.out.cell (o:=5) HbU.out).trans K5.out
           clear hcall
           go_wp2_with fail
           refine Hcall2.out.mono ?_
           rintro _ w8 ⟨rfl,c8,vl8,vb8,ys8,vss8,hF8,s8⟩
           have HR:=Lib.hid (fAt_of hF8 rfl (HS7.out.trans s8))
           clear hF8 s8 Hcall2 k5
           obtain ⟨c9,vl9,vb9,ys9,vss9,hF9,s9⟩:=HR.out
           rw [E3.out,← Hstep.out] at hF9
           have HR1:=Lib.hid hF9;have HR2:=Lib.hid (HsA.out.trans s9)
           clear hF9 s9 HR
           go_wp2_with fail
           go_roundw
           case rel=>exact ⟨j+1,c9,vl9,vb9,ys9,vss9,by omega,by go_num,HR1.out,HR2.out⟩
           case measure=>simp [intOf];omega
  · have t1:decide ((j:Int) < (l.length:Int))=false:=by simp;omega
    obtain rfl:j=l.length:=by omega
    rw [List.take_of_length_le (Nat.le_refl _)] at hF
    have HFe:=Lib.hid hF;have HSe:=Lib.hid sS
    clear hF sS
    go_wp2_with fail
    go_end0
    exact fdPost_of HFe.out rfl HSe.out
end Go.Proofs.YtdoaeapahgmfoaaGreatDoor

/- finder.again: the walk. -/
import Derived.Test.YtdoaeapahgmfoaaGreatDoorZ35
import Derived.Test.YtdoaeapahgmfoaaGreatDoorZ36
namespace Go.Proofs.YtdoaeapahgmfoaaGreatDoor
open Go.RowKit
def Ag.fd (fr:List Fr) (a:Ag):Fd:=⟨fr,a.stmt,a.bad⟩
def stepA (f:Nat) (fr:List Fr) (s:Stm) (i:Nat) (a:Ag):Ag:=
 let a:= { a with stmt:=a.stmt+1,next:=s.l.foldl (fun k e=>lambdasF e.nodes e k) a.next }
 let a:=if s.kind=sNonlocal then nonlF fr i s.p a else a
 if s.kind=sDef then againF f fr s.body (a.next+1) { a with next:=a.next+1 }
 else againF f fr s.els i (againF f fr s.body i a)
theorem againF_take (f:Nat) (fr:List Fr) (l:List Stm) (i:Nat) (a:Ag) (j:Nat) (hj:j < l.length):againF (f+1) fr (l.take (j+1)) i a=stepA f fr l[j] i (againF (f+1) fr (l.take j) i a):=
 fold_take (fun a s=>stepA f fr s i a) l a j hj
theorem sops_take (l:List Stm) (j:Nat) (hj:j < l.length):stmsOpens (l.take (j+1))=stmsOpens (l.take j)+l[j].opens:=by
 induction l generalizing j with
 | nil=>simp at hj
 | cons e r ih=>
   cases j with
   | zero=>simp [stmsOpens]
   | succ j=>
     have:=ih j (by simpa using hj)
     simp only [List.take_succ_cons,stmsOpens,List.getElem_cons_succ]
     omega
theorem sops_le (l:List Stm) (j:Nat):stmsOpens (l.take j)≤stmsOpens l:=by
 induction l generalizing j with
 | nil=>simp [stmsOpens]
 | cons e r ih=>cases j with
   | zero=>simp [stmsOpens]
   | succ j=>have:=ih j;simp only [List.take_succ_cons,stmsOpens];omega
theorem snd_le (l:List Stm) (j:Nat):stmsNodes (l.take j)≤stmsNodes l:=by
 induction l generalizing j with
 | nil=>simp [stmsNodes]
 | cons e r ih=>cases j with
   | zero=>simp [stmsNodes]
   | succ j=>have:=ih j;simp only [List.take_succ_cons,stmsNodes];omega
theorem sm_bad {fr:List Fr} {a:Ag} {N:Nat} (h:Sm (a.fd fr) N) (l:List Int) (hl:l.length≤a.bad.length+1) (n:Int) (k:Nat) (h1: -1≤n) (h2:n≤N+1):Sm (Ag.fd fr ⟨n,k,l⟩) (N+1):=
 ⟨Nat.le_succ_of_le h.fr,by have:=h.bad;show l.length≤N+1;have h2:(a.fd fr).bad=a.bad:=rfl;rw [h2] at this;omega,fun i k=>Nat.le_succ_of_le (h.row i k),fun i=>Nat.le_succ_of_le (h.loops i),h1,by show n≤((N+1:Nat):Int);omega⟩
theorem sm_nonlA (fr:List Fr) (i:Nat):∀ (ps:List (List UInt8)) (a:Ag) (N:Nat),Sm (a.fd fr) N→Sm ((nonlF fr i ps a).fd fr) (N+ps.length)
 | [],_,_,h=>h
 | n :: r,a,N,h=>by
   unfold nonlF
   simp only [List.foldl_cons]
   have h1:Sm ((if ownerF fr ((fr.getD i dfr).around) n=0 then { a with bad:=a.bad ++ [a.stmt] } else a).fd fr) (N+1):=by
    split
    · exact sm_bad h _ (by simp) _ _ h.lo (by have:=h.hi;show a.stmt≤(N:Int)+1;have h2:(a.fd fr).stmt=a.stmt:=rfl;rw [h2] at this;omega)
    · exact h.mono (Nat.le_succ _)
   have h2:=sm_nonlA fr i r _ _ h1
   refine h2.mono ?_
   simp only [List.length_cons];omega
theorem sm_agfold (fr:List Fr) (g:Ag→Stm→Ag):∀ (l:List Stm) (_:∀ e ∈ l,∀ N a,Sm (Ag.fd fr a) N→Sm (Ag.fd fr (g a e)) (N+8 * e.bulk)) (N:Nat) (a:Ag),Sm (a.fd fr) N→Sm ((l.foldl g a).fd fr) (N+8 * stmsBulk l)
 | [],_,N,a,h=>by simpa [stmsBulk] using h
 | e :: r,hf,N,a,h=>by
   have h1:=hf e List.mem_cons_self N a h
   have h2:=sm_agfold fr g r (fun a ha=>hf a (List.mem_cons_of_mem _ ha)) _ _ h1
   refine h2.mono ?_
   show _≤N+8 * (e.bulk+stmsBulk r)
   omega
theorem sm_stmtA {fr:List Fr} {a:Ag} {N:Nat} (h:Sm (a.fd fr) N) (k:Nat):Sm (Ag.fd fr ⟨a.stmt+1,k,a.bad⟩) (N+1):=
 sm_bad h _ (Nat.le_succ _) _ _ (by have:=h.lo;have h2:(a.fd fr).stmt=a.stmt:=rfl;rw [h2] at this;omega) (by have:=h.hi;have h2:(a.fd fr).stmt=a.stmt:=rfl;rw [h2] at this;omega)
theorem sm_again:∀ (f:Nat) (fr:List Fr) (l:List Stm) (i N:Nat) (a:Ag),Sm (a.fd fr) N→Sm ((againF f fr l i a).fd fr) (N+8 * stmsBulk l)
 | 0,_,_,_,_,_,h=>h.mono (Nat.le_add_right _ _)
 | f+1,fr,l,i,N,a,h=>by
   refine sm_agfold fr (fun a s=>stepA f fr s i a) l (fun s _ N a h=> ?_) N a h
   have hb:=Stm.bulk_eq s
   have hp:=strsBulk_len s.p
   unfold stepA
   dsimp only
   have h1:=sm_stmtA h (s.l.foldl (fun k e=>lambdasF e.nodes e k) a.next)
   generalize (⟨a.stmt+1,s.l.foldl (fun k e=>lambdasF e.nodes e k) a.next,a.bad⟩:Ag)=a1 at h1 ⊢
   have h2:Sm (Ag.fd fr (if s.kind=sNonlocal then nonlF fr i s.p a1 else a1)) (N+1+s.p.length):=by
    split
    · exact sm_nonlA fr i s.p a1 _ h1
    · exact h1.mono (by omega)
   generalize (if s.kind=sNonlocal then nonlF fr i s.p a1 else a1)=a2 at h2 ⊢
   split
   · have h3:Sm (Ag.fd fr { a2 with next:=a2.next+1 }) (N+1+s.p.length):=h2
     exact (sm_again f fr s.body _ _ _ h3).mono (by omega)
   · exact (sm_again f fr s.els _ _ _ (sm_again f fr s.body _ _ _ h2)).mono (by omega)
structure AStp (y:Nat) (c c':Clr) (w w':World):Prop where
 os:w'.os=w.os
 tape:w'.tape=w.tape
 output:w'.output=w.output
 size:w.heap.size≤w'.heap.size
 keep:∀ b,b < w.heap.size→c' b=c b∧(c b=none→b≠y→w'.heap[b]? =w.heap[b]?)
def UnY (w:World) (c:Clr) (y:Nat):Nat→Prop:=fun b=>b < w.heap.size∧c b=none∧b≠y
section
variable {w w':World} {y:Nat} {c c':Clr}
theorem AStp.refl (y:Nat) (c:Clr) (w:World):AStp y c c w w:=⟨rfl,rfl,rfl,Nat.le_refl _,fun _ _=>⟨rfl,fun _ _=>rfl⟩⟩
theorem AStp.trans {c1 c2 c3:Clr} {a b d:World} (h:AStp y c1 c2 a b) (k:AStp y c2 c3 b d):AStp y c1 c3 a d:=
 ⟨k.os.trans h.os,k.tape.trans h.tape,k.output.trans h.output,Nat.le_trans h.size k.size,fun n hn=>
   let h1:=h.keep n hn;let h2:=k.keep n (Nat.lt_of_lt_of_le hn h.size)
   ⟨h2.1.trans h1.1,fun e ne=>(h2.2 (h1.1.trans e) ne).trans (h1.2 e ne)⟩⟩
theorem AStp.ofF (h:FStp c c' w w'):AStp y c c' w w':=⟨h.os,h.tape,h.output,h.size,fun b hb=>⟨(h.keep b hb).1,fun e _=>(h.keep b hb).2 e⟩⟩
theorem AStp.ofY (h:YStp y w w'):AStp y c c w w':=⟨h.os,h.tape,h.output,h.size,fun b hb=>⟨rfl,fun _ ne=>h.keep b hb ne⟩⟩
theorem AStp.un (h:AStp y c c' w w') {b:Nat} (hb:UnY w c y b):UnY w' c' y b:=⟨Nat.lt_of_lt_of_le hb.1 h.size,((h.keep b hb.1).1).trans hb.2.1,hb.2.2⟩
theorem AStp.blk (h:AStp y c c' w w') {b:Nat} (hb:UnY w c y b):w'.heap[b]? =w.heap[b]? :=(h.keep b hb.1).2 hb.2.1 hb.2.2
theorem AStp.cell (h:AStp y c c' w w') {b o:Nat} (hb:UnY w c y b):w'.cell? ⟨b,o,none⟩=w.cell? ⟨b,o,none⟩:=World.cell?_of_block (h.blk hb)
theorem AStp.strs (h:AStp y c c' w w') {v:Value} {l:List (List UInt8)} (hs:StrsAt w (UnY w c y) v l):StrsAt w' (UnY w' c' y) v l:=hs.mono (fun _ _ hb=>h.cell hb) fun _ hb=>h.un hb
theorem AStp.exs (h:AStp y c c' w w') {v:Value} {l:List Ex} (hs:ExsAt w (UnY w c y) v l):ExsAt w' (UnY w' c' y) v l:=hs.mono (fun _ _ hb=>h.cell hb) fun _ hb=>h.un hb
theorem AStp.stms (h:AStp y c c' w w') {v:Value} {l:List Stm} (hs:StmsAt w (UnY w c y) v l):StmsAt w' (UnY w' c' y) v l:=hs.mono (fun _ _ hb=>h.cell hb) fun _ hb=>h.un hb
theorem NxC.fstp {k:Nat} (h:NxC w y k) (hc:c y=none) (s:FStp c c' w w'):NxC w' y k∧c' y=none:=⟨((s.keep y (lt_of_blk h)).2 hc).trans h,((s.keep y (lt_of_blk h)).1).trans hc⟩
theorem FdC.ystp {x B m:Nat} {d:Fd} {vl vb:Value} {ys:List Nat} {vss:Nat→Nat→Value} (h:FdC w x c B d m vl vb ys vss) (hc:c y=none) (s:YStp y w w'):FdC w' x c B d m vl vb ys vss:=
 h.keep s.size fun b r e=>s.keep b (h.lo b r e).2 fun e2=>by rw [e2,hc] at e;cases e
end
def AgAt (w0:World) (c0:Clr) (x B:Nat) (fr:List Fr) (vl:Value) (ys:List Nat) (vss:Nat→Nat→Value) (y:Nat) (a:Ag) (W:World):Prop:=
 ∃ (c:Clr) (vb:Value),FdC W x c B (a.fd fr) fr.length vl vb ys vss∧AStp y c0 c w0 W∧NxC W y a.next∧c y=none
def AgC (f:Nat):Prop:=∀ (l:List Stm) (i:Nat) (w:World) (x B N y:Nat) (c:Clr) (fr:List Fr) (a:Ag) (vl vb vz:Value) (ys:List Nat) (vss:Nat→Nat→Value),stmsNodes l < f→FdC w x c B (a.fd fr) fr.length vl vb ys vss→NxC w y a.next→c y=none→i < fr.length→a.next+stmsOpens l < fr.length→Arnd fr→Sm (a.fd fr) N→N+8 * stmsBulk l≤30000000→B≤w.heap.size→
 StmsAt w (UnY w c y) vz l→Calls Tryz.prog 74 #[.pointer (some ⟨x,0,none⟩),.int .i64 (i:Int),vz,.pointer (some ⟨y,0,none⟩)] w fun e w'=>e= .returned (.tuple #[])∧AgAt w c x B fr vl ys vss y (againF f fr l i a) w'
set_option maxRecDepth 100000 in
set_option maxHeartbeats 40000000 in
theorem again_step {f:Nat} (hf:AgC f):AgC (f+1):=by
 intro l i w x B N y c fr a vl vb vz ys vss hnd h hy hcy hi hop har hN hN2 hB hz
 obtain ⟨al,cl,rfl,hlr⟩:=hz
 have hln:=stmsBulk_len l
 have hNf:=hN.fr
 have HF0:=Lib.hid h;have HY0:=Lib.hid hy;have Hcy:=Lib.hid hcy;have HiS:=Lib.hid hi;have Hop:=Lib.hid hop;have Har:=Lib.hid har;have HN0:=Lib.hid hN;have Hrow:=Lib.hid hlr;have Hf:=Lib.hid hf;have Hnd:=Lib.hid hnd
 have hfrl:fr.length≤30000000:=by have e:(a.fd fr).fr=fr:=rfl;rw [e] at hNf;omega
 clear h hy hcy hi hop har hN hlr hf hnd hNf
 go_enter Tryz.func74,Tryz.ntmps74
 go_wp2_with fail
 go_loopw [16,13] (fun t _ wr=>∃ (j:Nat) (c1:Clr) (vb1:Value),j≤l.length∧t= .int .i64 j∧FdC wr x c1 B ((againF (f+1) fr (l.take j) i a).fd fr) fr.length vl vb1 ys vss∧AStp y c c1 w wr∧NxC wr y (againF (f+1) fr (l.take j) i a).next∧c1 y=none) (fun t _ _=>l.length - (intOf t).toNat)
 case atStart=>exact ⟨0,_,_,by omega,rfl,HF0.out,AStp.refl _ _ _,HY0.out,Hcy.out⟩
 case round=>
  obtain ⟨j,c1,vb1,hj,rfl,hF,sS,hY,hc⟩:=hrel
  by_cases hjl:j < l.length
  · have t1:decide ((j:Int) < (l.length:Int))=true:=by simp;omega
    obtain ⟨b,o,rfl,hbR,hrow⟩:=Hrow.out (by omega)
    obtain ⟨vp1,vx1,vd1,ve1,q0,q1,q2,q3,q4,q5,hp1,hx1,hd1,he1⟩:=(hrow.at_ _ _ _ j hjl).open_
    have hsm:=sm_again (f+1) fr (l.take j) i N a HN0.out
    have hmem:=stms_mem (List.getElem_mem hjl)
    have hbt:=sbk_take l j hjl
    have hbl:stmsBulk (l.take (j+1))≤stmsBulk l:=sbk_le _ _
    have hot:=sops_take l j hjl
    have hol:stmsOpens (l.take (j+1))≤stmsOpens l:=sops_le _ _
    have hnx:=again_opens (f+1) fr (l.take j) i a (Nat.lt_of_le_of_lt (snd_le l j) Hnd.out)
    have hstep:=againF_take f fr l i a j hjl
    have hnd1:=Hnd.out
    have hop1:=Hop.out
    replace q0:=(sS.cell hbR).trans q0
    replace q1:=(sS.cell hbR).trans q1
    replace q2:=(sS.cell hbR).trans q2
    replace q3:=(sS.cell hbR).trans q3
    replace q4:=(sS.cell hbR).trans q4
    replace q5:=(sS.cell hbR).trans q5
    replace hp1:=sS.strs hp1
    replace hx1:=sS.exs hx1
    replace hd1:=sS.stms hd1
    replace he1:=sS.stms he1
    obtain ⟨A,hA⟩:∃ A,A=againF (f+1) fr (l.take j) i a:=⟨_,rfl⟩
    rw [← hA] at hF hsm hnx hstep hY
    obtain ⟨s,hs⟩:∃ s,s=l[j]:=⟨_,rfl⟩
    rw [← hs] at q0 q1 hp1 hx1 hd1 he1 hmem hbt hstep hot
    obtain ⟨N1,hN1,hN1b⟩:∃ N1,Sm (A.fd fr) N1∧N1+8 * s.bulk≤30000000:=⟨_,hsm,by omega⟩
    have hnb:stmsNodes s.body < f∧stmsNodes s.els < f:=by
     have:=Stm.nodes_eq s
     have:=hmem.2.1
     omega
    have hopA:A.next+s.opens < fr.length:=by omega
    have hoe:=Stm.opens_eq s
    have hbe:=Stm.bulk_eq s
    have hpl:=strsBulk_len s.p
    have hxl:=exsBulk_len s.l
    have hxn:=exsNodes_bulk s.l
    have HpW:=Lib.hid hp1;have HxW:=Lib.hid hx1;have HdW:=Lib.hid hd1;have HeW:=Lib.hid he1
    obtain ⟨ap,cp,rfl,-,-⟩:=hp1
    obtain ⟨ax,cx,rfl,-,-⟩:=hx1
    obtain ⟨abd,cbd,rfl,-⟩:=hd1
    obtain ⟨ae,ce,rfl,-⟩:=he1
    have hbA:=(Below.refl wr.heap.size wr).alloc (Nat.le_refl _) (.cells #[.string (toBA s.kind),.string (toBA s.name),.slice ap s.p.length cp,.slice ax s.l.length cx,.slice abd s.body.length cbd,.slice ae s.els.length ce] 82)
    obtain ⟨hFA,sA⟩:=hF.grow hbA
    have hblk:=heap_alloc_new wr (.cells #[.string (toBA s.kind),.string (toBA s.name),.slice ap s.p.length cp,.slice ax s.l.length cx,.slice abd s.body.length cbd,.slice ae s.els.length ce] 82)
    have hyl:=lt_of_blk hY
    have hbU:UnY (wr.alloc (.cells #[.string (toBA s.kind),.string (toBA s.name),.slice ap s.p.length cp,.slice ax s.l.length cx,.slice abd s.body.length cbd,.slice ae s.els.length ce] 82)) c1 y wr.heap.size:=⟨by simp,hF.fresh (Nat.le_refl _),by omega⟩
    have hst1:=hN1.lo
    have hst2:=hN1.hi
    obtain ⟨hFS,sSt⟩:=hFA.setStmt (A.stmt+1)
    have x1:=cell_of_blk (o:=1) hFA.blk
    have fx1:=frozen_of_blk (o:=1) hFA.blk
    have hxl1:=hFA.x_lt
    have hsz0:=sS.size
    have hsAS:=(AStp.ofF (y:=y) sA).trans (AStp.ofF sSt)
    obtain ⟨hYS,hcS⟩:=NxC.fstp (hY.below hbA) hc sSt
    obtain ⟨nx0,hnx0⟩:∃ nx0,nx0=A.next:=⟨_,rfl⟩
    obtain ⟨nx1,hnx1⟩:∃ nx1,s.l.foldl (fun k e=>lambdasF e.nodes e k) nx0=nx1:=⟨_,rfl⟩
    have hnx1e:nx1=A.next+exsOpens s.l:=by
     rw [← hnx1,hnx0]
     exact opens_exs id (fun k e=>lambdasF e.nodes e k) s.l (fun e _ k=>lambdas_opens _ e k (Nat.le_refl _)) A.next
    obtain ⟨A1,hA1⟩:∃ A1:Ag,A1=⟨A.stmt+1,nx1,A.bad⟩:=⟨_,rfl⟩
    have hA1n:A1.next=nx1:=by rw [hA1]
    have hA1e:A1= { A with stmt:=A.stmt+1,next:=s.l.foldl (fun k e=>lambdasF e.nodes e k) A.next }:=by rw [hA1,← hnx1,hnx0]
    have hFS1:FdC ((wr.alloc (.cells #[.string (toBA s.kind),.string (toBA s.name),.slice ap s.p.length cp,.slice ax s.l.length cx,.slice abd s.body.length cbd,.slice ae s.els.length ce] 82)).setCell ⟨x,1,none⟩ (.int .i64 (A.stmt+1))) x c1 B (A1.fd fr) fr.length vl vb1 ys vss:=by rw [hA1];exact hFS
    have hsmA:Sm (A1.fd fr) (N1+1):=by rw [hA1];exact sm_stmtA hN1 _
    have HFS:=Lib.hid hFS1;have HYS:=Lib.hid (hnx0 ▸ hYS:NxC _ y nx0);have HcS:=Lib.hid hcS;have HA1:=Lib.hid (hnx1.trans hA1n.symm);have HA1e:=Lib.hid hA1e;have HSmA:=Lib.hid hsmA;have Hstep:=Lib.hid hstep;have Hnb:=Lib.hid hnb
    have HoN:=Lib.hid (show ¬ s.kind=sDef→A1.next+stmsOpens s.body+stmsOpens s.els < fr.length from fun hk=>by rw [if_neg hk] at hoe;rw [hA1n,hnx1e];omega)
    have HoD:=Lib.hid (show s.kind=sDef→A1.next+1+stmsOpens s.body < fr.length from fun hk=>by rw [if_pos hk] at hoe;rw [hA1n,hnx1e];omega)
    have HsA:=Lib.hid (sS.trans hsAS)
    have HbU:=Lib.hid ((AStp.ofF (y:=y) sSt).un hbU)
    have HpS:=Lib.hid (hsAS.strs HpW.out);have HxS:=Lib.hid (hsAS.exs HxW.out);have HbS:=Lib.hid (hsAS.stms HdW.out);have HeS:=Lib.hid (hsAS.stms HeW.out)
    have Hblk:=Lib.hid (((AStp.ofF (y:=y) sSt).blk hbU).trans hblk)
    have hnxb:nx0+exsNodes s.l≤100000000:=by rw [hnx0];omega
    have e0:(A.fd fr).stmt=A.stmt:=rfl
    rw [e0] at hst1 hst2 x1
    generalize hsn:A.stmt=sn at x1 hst1 hst2 HFS HYS HsA HbU HpS HxS HbS HeS Hblk
    clear hA1 hA1n hA1e hstep hnx1 hnx1e hnx0 hsmA hnb hFS hFS1 hblk hbU hsAS sA sSt hFA hF sS hN1 hsm hmem hbt hbl hs hA hnd1 HpW HxW HdW HeW hrow hbA hsn hYS hcS hY hc hyl hop1 hopA hoe hot hol hnx e0
    go_upto_region 4 with fail
    generalize hbx:wr.heap.size=bx at *
    generalize ((wr.alloc (.cells #[.string (toBA s.kind),.string (toBA s.name),.slice ap s.p.length cp,.slice ax s.l.length cx,.slice abd s.body.length cbd,.slice ae s.els.length ce] 82)).setCell ⟨x,1,none⟩ (.int .i64 (sn+1)))=WS at *
    clear q0 q1 q2 q3 q4 q5 x1 fx1 hxl1
    have i0:(0:Int)≤(i:Int):=Int.natCast_nonneg _
    have i1:(i:Int) < (fr.length:Int):=by have:=HiS.out;omega
    have hBS:B≤WS.heap.size:=by have:=HsA.out.size;omega
    have K0:=Lib.hid (cell_of_blk (o:=0) Hblk.out);have K1:=Lib.hid (cell_of_blk (o:=1) Hblk.out);have K2:=Lib.hid (cell_of_blk (o:=2) Hblk.out);have k3:=cell_of_blk (o:=3) Hblk.out;have K4:=Lib.hid (cell_of_blk (o:=4) Hblk.out);have K5:=Lib.hid (cell_of_blk (o:=5) Hblk.out)
    have hxs:ExsAt WS (NotY WS y) (.slice ax s.l.length cx) s.l:=HxS.out.mono (fun _ _ _=>rfl) fun _ hb=>⟨hb.1,hb.2.2⟩
    obtain ⟨ax',cx',hvx,_,hxr⟩:=hxs
    injection hvx with e1 _ e2
    subst e1 e2
    have Hxr:=Lib.hid hxr
    clear hxr Hblk
    go_wp2_with fail
    skip
    go_loopw [30] (fun t wr=>∃ (q:Nat),q≤s.l.length∧t= .int .i64 q∧NxC wr y ((s.l.take q).foldl (fun k e=>lambdasF e.nodes e k) nx0)∧YStp y WS wr) (fun t _=>s.l.length - (intOf t).toNat)
    case atStart=>exact ⟨0,by omega,rfl,HYS.out,YStp.refl _ _⟩
    case round=>
     obtain ⟨q,hq,rfl,hY,s3⟩:=hrel
     by_cases hql:q < s.l.length
     · have t1:decide ((q:Int) < (s.l.length:Int))=true:=by simp;omega
       obtain ⟨bz,oz,rfl,hbX,hxrow⟩:=Hxr.out (by omega)
       obtain ⟨vp5,vz5,p0,p1,p2,p3,p4,hp5,hx5⟩:=(hxrow.at_ _ _ _ q hql).open_
       have Hp5:=Lib.hid hp5;have Hx5:=Lib.hid hx5
       obtain ⟨ap5,cp5,rfl,_⟩:=hp5
       obtain ⟨al5,cl5,rfl,_⟩:=hx5
       have p0:=(s3.cell hbX).trans p0
       have p1:=(s3.cell hbX).trans p1
       have p2:=(s3.cell hbX).trans p2
       have p3:=(s3.cell hbX).trans p3
       have p4:=(s3.cell hbX).trans p4
       have hbA:=(Below.refl wr.heap.size wr).alloc (Nat.le_refl _) (.cells #[.string (toBA s.l[q].op),.int .i64 s.l[q].n,.string (toBA s.l[q].s),.slice ap5 s.l[q].p.length cp5,.slice al5 s.l[q].l.length cl5] 140)
       have hsA:=s3.trans (YStp.grow hbA)
       have hm:=exNodes_mem (List.getElem_mem hql)
       have hbt:=exsNodes_take s.l q hql
       have hbl:exsNodes (s.l.take (q+1))≤exsNodes s.l:=exsNodes_le _ _
       have hle:=lamF_fold (fun k e=>lambdasF e.nodes e k) (s.l.take q) (fun a _ k=>lamF_le _ a k) nx0
       have hcall:=lam_all s.l[q].nodes s.l[q] _ y _ _ _ (Nat.le_refl _) (hY.below hbA) (by omega) (hsA.strs Hp5.out) (hsA.exs Hx5.out)
       rw [← fold_take (fun k e=>lambdasF e.nodes e k) s.l nx0 q hql] at hcall
       have Hcall:=Lib.hid hcall;have HsA5:=Lib.hid hsA
       clear hcall hsA hY s3 hxrow hm hbt hbl hle hbA
       go_wp2_with fail
       refine Hcall.out.mono ?_
       rintro _ w5 ⟨rfl,hY5,s5⟩
       have HY5:=Lib.hid hY5;have HS5:=Lib.hid (HsA5.out.trans s5)
       clear hY5 s5 Hcall p0 p1 p2 p3 p4
       go_wp2_with fail
       go_roundw
       case rel=>exact ⟨q+1,by omega,by go_num,HY5.out,HS5.out⟩
       case measure=>simp [intOf];omega
     · rename World=>wq
       have t1:decide ((q:Int) < (s.l.length:Int))=false:=by simp;omega
       obtain rfl:q=s.l.length:=by omega
       rw [List.take_of_length_le (Nat.le_refl _),HA1.out] at hY
       have hF2:=HFS.out.ystp HcS.out s3
       have hs2:AStp y c1 c1 WS wq:=AStp.ofY s3
       have k0:=(hs2.cell (o:=0) HbU.out).trans K0.out
       have HF2:=Lib.hid hF2;have HS2:=Lib.hid hs2;have HY2:=Lib.hid hY
       clear hF2 hs2 hY s3
       skip
       by_cases hk:s.kind=sNonlocal
       · skip
         have v1:((toBA s.kind).toList == [110,111,110,108,111,99,97,108])=true:=by rw [m_toList,hk];decide
         have v2:((toBA s.kind).toList == [100,101,102])=false:=by rw [m_toList,hk];decide
         have e3:stepA f fr s i A=againF f fr s.els i (againF f fr s.body i (nonlF fr i s.p A1)):=by
          rw [HA1e.out]
          unfold stepA
          dsimp only
          rw [if_pos hk,if_neg (by rw [hk];decide)]
         have E3:=Lib.hid e3.symm
         have Hopn:=Lib.hid (HoN.out (by rw [hk];decide))
         clear e3 hk
         have k2:=(HS2.out.cell (o:=2) HbU.out).trans K2.out
         have hsmN:=sm_nonlA fr i s.p A1 _ HSmA.out
         have hnn:=nonl_next fr i s.p A1
         obtain ⟨ap',cp',hvp,_,hpr⟩:=HpS.out
         injection hvp with e1 _ e2
         subst e1 e2
         have Hpr:=Lib.hid hpr;have HSmN:=Lib.hid hsmN;have Hnn:=Lib.hid hnn.1
         clear hpr hsmN hnn
         go_wp2_with fail
         go_loopw [44,13] (fun t _ W=>∃ (q:Nat) (c3:Clr) (vb3:Value),q≤s.p.length∧t= .int .i64 q∧FdC W x c3 B ((nonlF fr i (s.p.take q) A1).fd fr) fr.length vl vb3 ys vss∧FStp c1 c3 wq W) (fun t _ _=>s.p.length - (intOf t).toNat)
         case atStart=>exact ⟨0,_,_,by omega,rfl,HF2.out,FStp.refl _ _⟩
         case round=>
          obtain ⟨q,c3,vb3,hq,rfl,hF3,s3⟩:=hrel
          by_cases hql:q < s.p.length
          · have t1:decide ((q:Int) < (s.p.length:Int))=true:=by simp;omega
            obtain ⟨bz,oz,rfl,hbX,hz⟩:=Hpr.out (by omega)
            have hz:=hz q hql
            have hz:=(HS2.out.cell hbX).trans hz
            have hz:=(s3.cell ⟨(HS2.out.un hbX).1,(HS2.out.un hbX).2.1⟩).trans hz
            obtain ⟨g,cap,nm,Y,hYe,rfl,hcap,cg,hbkY⟩:=hF3.look HiS.out
            have x0:wr.cell? ⟨x,0,none⟩=some (.slice (some ⟨g,0,none⟩) fr.length cap):=cell_of_blk (o:=0) hF3.blk
            have yy:=(hF3.fcell HiS.out).1
            rw [← hYe] at yy
            obtain ⟨ar,har⟩:∃ ar,ar=(fr.getD i dfr).around:=⟨_,rfl⟩
            have har1: -1≤ar∧ar < (fr.length:Int):=by
             rw [har]
             rcases Nat.eq_zero_or_pos i with e | e
             · rw [e,Har.out.zero];have:=Har.out.pos;omega
             · have:=Har.out.lt i e HiS.out;have:=HiS.out;omega
            have y1:wr.cell? ⟨Y,1,none⟩=some (.int .i64 ar):=by rw [har];exact yy
            clear yy
            have hsm3:=sm_nonlA fr i (s.p.take q) A1 _ HSmA.out
            have htl:(s.p.take q).length≤s.p.length:=by simp;omega
            have how:=owner_any hF3 rfl Har.out ar har1.1 har1.2 s.p[q] hsm3 (by omega)
            have hstep3:nonlF fr i (s.p.take (q+1)) A1=if ownerF fr ar s.p[q]=0 then { nonlF fr i (s.p.take q) A1 with bad:=(nonlF fr i (s.p.take q) A1).bad ++ [(nonlF fr i (s.p.take q) A1).stmt] } else nonlF fr i (s.p.take q) A1:=by
             rw [har]
             exact fold_take (fun a n=>if ownerF fr ((fr.getD i dfr).around) n=0 then { a with bad:=a.bad ++ [a.stmt] } else a) s.p A1 q hql
            have hfrn:((nonlF fr i (s.p.take q) A1).fd fr).fr=fr:=rfl
            rw [hfrn] at how
            obtain ⟨ow,how1⟩:∃ ow,ow=ownerF fr ar s.p[q]:=⟨_,rfl⟩
            rw [← how1] at how hstep3
            have hsz3:=s3.size
            have hsz2:=HS2.out.size
            have Hfail:=Lib.hid (fail_any hF3 (by have:=hsm3.bad;omega) (by omega))
            have How:=Lib.hid how;have Hst3:=Lib.hid hstep3;have HF3:=Lib.hid hF3;have HS3:=Lib.hid s3
            clear how hstep3 hF3 s3 hsm3 hbkY hYe har how1 hfrn
            by_cases h0:ow=0
            · have t0:((ow:Int) == 0)=true:=by rw [h0];rfl
              have hst:=Hst3.out
              rw [if_pos h0] at hst
              have Hst:=Lib.hid hst
              clear hst h0 Hst3
              go_wp2_with fail
              refine How.out.mono ?_
              rintro _ w4 ⟨rfl,rfl⟩
              go_wp2_with fail
              refine Hfail.out.mono ?_
              rintro _ w5 ⟨rfl,c5,vb5,hF5,s5⟩
              have HF5:=Lib.hid hF5;have HS5:=Lib.hid (HS3.out.trans s5)
              clear hF5 s5 How Hfail x0 y1 cg hz
              go_wp2_with fail
              go_roundw
              case rel=>exact ⟨q+1,c5,vb5,by omega,by go_num,by rw [Hst.out];exact HF5.out,HS5.out⟩
              case measure=>simp [intOf];omega
            · have t0:((ow:Int) == 0)=false:=by rw [beq_eq_false_iff_ne];omega
              have hst:=Hst3.out
              rw [if_neg h0] at hst
              have Hst:=Lib.hid hst
              clear hst h0 Hst3
              go_wp2_with fail
              refine How.out.mono ?_
              rintro _ w4 ⟨rfl,rfl⟩
              go_wp2_with fail
              go_roundw
              case rel=>exact ⟨q+1,_,_,by omega,by go_num,by rw [Hst.out];exact HF3.out,HS3.out⟩
              case measure=>simp [intOf];omega
          · have t1:decide ((q:Int) < (s.p.length:Int))=false:=by simp;omega
            obtain rfl:q=s.p.length:=by omega
            rw [List.take_of_length_le (Nat.le_refl _)] at hF3
            obtain ⟨hY6,hc6⟩:=HY2.out.fstp HcS.out s3
            rw [← Hnn.out] at hY6
            have hs6:=HS2.out.trans (AStp.ofF (y:=y) s3)
            have k0:=(hs6.cell (o:=0) HbU.out).trans K0.out
            obtain ⟨A6,hA6⟩:∃ A6,A6=nonlF fr i s.p A1:=⟨_,rfl⟩
            have e3:=E3.out
            have hop6:=Hopn.out
            have hsm6:=HSmN.out
            rw [← Hnn.out] at hop6
            rw [← hA6] at hF3 hY6 e3 hop6 hsm6
            have E3:=Lib.hid e3;have HF6:=Lib.hid hF3;have HY6:=Lib.hid hY6;have Hc6:=Lib.hid hc6;have HS6:=Lib.hid hs6;have HSm6:=Lib.hid hsm6
            have Hop6:=Lib.hid hop6
            clear e3 hop6 hsm6 hF3 hY6 hc6 hs6 s3 hA6 Hnn HSmN
            skip
            have k4:=(HS6.out.cell (o:=4) HbU.out).trans K4.out
            have k5:=(HS6.out.cell (o:=5) HbU.out).trans K5.out
            have hcall:=Hf.out s.body i _ x B _ y c3 fr A6 vl vb3 _ ys vss Hnb.out.1 HF6.out HY6.out Hc6.out HiS.out (by have:=Hop6.out;omega) Har.out HSm6.out (by omega) (by have:=HS6.out.size;omega) (HS6.out.stms HbS.out)
            have hop7:=again_opens f fr s.body i A6 Hnb.out.1
            have hsm7:=sm_again f fr s.body i _ A6 HSm6.out
            have Hcall:=Lib.hid hcall;have Hop7:=Lib.hid hop7;have HSm7:=Lib.hid hsm7
            clear hcall hop7 hsm7
            go_wp2_with fail
            refine Hcall.out.mono ?_
            rintro _ w7 ⟨rfl,c7,vb7,hF7,s7,hY7,hc7⟩
            have hs7:=HS6.out.trans s7
            have k5:=(hs7.cell (o:=5) HbU.out).trans K5.out
            have hcall:=Hf.out s.els i _ x B _ y c7 fr (againF f fr s.body i A6) vl vb7 _ ys vss Hnb.out.2 hF7 hY7 hc7 HiS.out (by have:=Hop6.out;have:=Hop7.out;omega) Har.out HSm7.out (by omega) (by have:=hs7.size;omega) (hs7.stms HeS.out)
            have Hcall:=Lib.hid hcall;have HS7:=Lib.hid hs7
            clear hcall hs7 hF7 s7 hY7 hc7 k4
            go_wp2_with fail
            refine Hcall.out.mono ?_
            rintro _ w8 ⟨rfl,c8,vb8,hF8,s8,hY8,hc8⟩
            have HR:=Lib.hid (show AgAt WS c1 x B fr vl ys vss y (againF f fr s.els i (againF f fr s.body i A6)) w8 from ⟨c8,vb8,hF8,HS7.out.trans s8,hY8,hc8⟩)
            clear hF8 s8 hY8 hc8 Hcall k5
            obtain ⟨c9,vb9,hF9,s9,hY9,hc9⟩:=HR.out
            rw [E3.out,← Hstep.out] at hF9 hY9
            have HR1:=Lib.hid hF9;have HR2:=Lib.hid (HsA.out.trans s9);have HR3:=Lib.hid hY9;have HR4:=Lib.hid hc9
            clear hF9 s9 HR hY9 hc9
            go_wp2_with fail
            go_roundw
            case rel=>exact ⟨j+1,c9,vb9,by omega,by go_num,HR1.out,HR2.out,HR3.out,HR4.out⟩
            case measure=>simp [intOf];omega
       have n1:=hk;clear hk
       by_cases hk:s.kind=sDef
       · skip
         have v1:((toBA s.kind).toList == [110,111,110,108,111,99,97,108])=false:=by rw [m_toList,hk];decide
         have v2:((toBA s.kind).toList == [100,101,102])=true:=by rw [m_toList,hk];decide
         have e3:stepA f fr s i A=againF f fr s.body (A1.next+1) { A1 with next:=A1.next+1 }:=by
          rw [HA1e.out]
          unfold stepA
          dsimp only
          rw [if_neg n1,if_pos hk]
         have hod:=HoD.out hk
         have hY2:=HY2.out
         have hFn:FdC wq x c1 B (Ag.fd fr { A1 with next:=A1.next+1 }) fr.length vl vb1 ys vss:=HF2.out
         have hSmn:Sm (Ag.fd fr { A1 with next:=A1.next+1 }) (N1+1):=HSmA.out
         obtain ⟨n2,hn2⟩:∃ n2,n2=A1.next:=⟨_,rfl⟩
         rw [← hn2] at hod hY2 e3 hFn hSmn
         obtain ⟨A2,hA2⟩:∃ A2:Ag,A2= { A1 with next:=n2+1 }:=⟨_,rfl⟩
         have hA2n:A2.next=n2+1:=by rw [hA2]
         rw [← hA2] at e3 hFn hSmn
         have E3:=Lib.hid e3.symm
         have y0:=cell_of_blk (o:=0) hY2
         have f0:=frozen_of_blk (o:=0) hY2
         have yl:=lt_of_blk hY2
         obtain ⟨hY3,s3⟩:=hY2.set (n2+1) ((n2:Int)+1) (by omega)
         have hF3:=hFn.ystp HcS.out s3
         have hs3:=HS2.out.trans (AStp.ofY (c:=c1) s3)
         have k4:=(hs3.cell (o:=4) HbU.out).trans K4.out
         have hn2b:n2≤30000000:=by omega
         have hcst:((n2+1:Nat):Int)=(n2:Int)+1:=by omega
         have y3:(wq.setCell ⟨y,0,none⟩ (.int .i64 ((n2:Int)+1))).cell? ⟨y,0,none⟩=some (.int .i64 ((n2:Int)+1)):=by
          rw [cell_of_blk (o:=0) hY3]
          show some (Value.int .i64 ((n2+1:Nat):Int))=_
          rw [hcst]
         have yl3:=lt_of_blk hY3
         have HF3:=Lib.hid hF3;have HS3:=Lib.hid hs3;have HY3:=Lib.hid hY3;have HSmN:=Lib.hid hSmn;have Hod:=Lib.hid hod;have Hcst:=Lib.hid hcst;have HA2n:=Lib.hid hA2n
         clear e3 hk n1 hod hY2 hFn hSmn hn2 hA2 hA2n hF3 hs3 hY3 s3 hcst
         go_upto_region 18 with fail
         clear y0 f0 yl k0
         generalize (wq.setCell ⟨y,0,none⟩ (.int .i64 ((n2:Int)+1)))=W3 at *
         have hcall:=Hf.out s.body (n2+1) W3.drew x B _ y c1 fr A2 vl vb1 _ ys vss Hnb.out.1 (HF3.out.grow (Below.refl _ _).drew).1 (by rw [HA2n.out];exact HY3.out.below (Below.refl _ _).drew) HcS.out (by have:=Hod.out;omega) (by rw [HA2n.out];have:=Hod.out;omega) Har.out HSmN.out (by omega) (by have:=HS3.out.size;show B≤W3.heap.size;omega) ((HS3.out.trans (AStp.ofF (HF3.out.grow (Below.refl _ _).drew).2)).stms HbS.out)
         rw [Hcst.out] at hcall
         have Hcall:=Lib.hid hcall
         have HS4:=Lib.hid (HS3.out.trans (AStp.ofF (y:=y) (HF3.out.grow (Below.refl _ _).drew).2))
         clear hcall
         go_cut [] (fun W=>AgAt WS c1 x B fr vl ys vss y (againF f fr s.body (n2+1) A2) W)
         case first=>
          go_region_with ((go_at_call 74;(with_reducible refine Hcall.out.mono ?_);rintro _ w7 ⟨rfl,c7,vb7,hF7,s7,hY7,hc7⟩))
          all_goals
           (go_wp2_with fail
            go_meet
            case rel=>exact ⟨c7,vb7,hF7,HS4.out.trans s7,hY7,hc7⟩)
         case rest=>
          have HR:=Lib.hid hcut
          clear hcut Hcall k4 y3 yl3
          obtain ⟨c9,vb9,hF9,s9,hY9,hc9⟩:=HR.out
          rw [E3.out,← Hstep.out] at hF9 hY9
          have HR1:=Lib.hid hF9;have HR2:=Lib.hid (HsA.out.trans s9);have HR3:=Lib.hid hY9;have HR4:=Lib.hid hc9
          clear hF9 s9 HR hY9 hc9
          go_wp2_with fail
          go_roundw
          case rel=>exact ⟨j+1,c9,vb9,by omega,by go_num,HR1.out,HR2.out,HR3.out,HR4.out⟩
          case measure=>simp [intOf];omega
       · have v1:((toBA s.kind).toList == [110,111,110,108,111,99,97,108])=false:=m_ne n1
         have v2:((toBA s.kind).toList == [100,101,102])=false:=m_ne hk
         have e3:stepA f fr s i A=againF f fr s.els i (againF f fr s.body i A1):=by
          rw [HA1e.out]
          unfold stepA
          dsimp only
          rw [if_neg n1,if_neg hk]
         have E3:=Lib.hid e3.symm
         have Hop6:=Lib.hid (HoN.out hk)
         have HF6:=HF2;have HY6:=HY2;have Hc6:=HcS;have HS6:=HS2;have HSm6:=HSmA
         clear e3 n1 hk
         have k4:=(HS6.out.cell (o:=4) HbU.out).trans K4.out
         have k5:=(HS6.out.cell (o:=5) HbU.out).trans K5.out
         have hcall:=Hf.out s.body i _ x B _ y c1 fr A1 vl vb1 _ ys vss Hnb.out.1 HF6.out HY6.out Hc6.out HiS.out (by have:=Hop6.out;omega) Har.out HSm6.out (by omega) (by have:=HS6.out.size;omega) (HS6.out.stms HbS.out)
         have hop7:=again_opens f fr s.body i A1 Hnb.out.1
         have hsm7:=sm_again f fr s.body i _ A1 HSm6.out
         have Hcall:=Lib.hid hcall;have Hop7:=Lib.hid hop7;have HSm7:=Lib.hid hsm7
         clear hcall hop7 hsm7
         go_wp2_with fail
         refine Hcall.out.mono ?_
         rintro _ w7 ⟨rfl,c7,vb7,hF7,s7,hY7,hc7⟩
         have hs7:=HS6.out.trans s7
         have k5:=(hs7.cell (o:=5) HbU.out).trans K5.out
         have hcall:=Hf.out s.els i _ x B _ y c7 fr (againF f fr s.body i A1) vl vb7 _ ys vss Hnb.out.2 hF7 hY7 hc7 HiS.out (by have:=Hop6.out;have:=Hop7.out;omega) Har.out HSm7.out (by omega) (by have:=hs7.size;omega) (hs7.stms HeS.out)
         have Hcall:=Lib.hid hcall;have HS7:=Lib.hid hs7
         clear hcall hs7 hF7 s7 hY7 hc7 k4
         go_wp2_with fail
         refine Hcall.out.mono ?_
         rintro _ w8 ⟨rfl,c8,vb8,hF8,s8,hY8,hc8⟩
         have HR:=Lib.hid (show AgAt WS c1 x B fr vl ys vss y (againF f fr s.els i (againF f fr s.body i A1)) w8 from ⟨c8,vb8,hF8,HS7.out.trans s8,hY8,hc8⟩)
         clear hF8 s8 hY8 hc8 Hcall k5
         obtain ⟨c9,vb9,hF9,s9,hY9,hc9⟩:=HR.out
         rw [E3.out,← Hstep.out] at hF9 hY9
         have HR1:=Lib.hid hF9;have HR2:=Lib.hid (HsA.out.trans s9);have HR3:=Lib.hid hY9;have HR4:=Lib.hid hc9
         clear hF9 s9 HR hY9 hc9
         go_wp2_with fail
         go_roundw
         case rel=>exact ⟨j+1,c9,vb9,by omega,by go_num,HR1.out,HR2.out,HR3.out,HR4.out⟩
         case measure=>simp [intOf];omega
  · have t1:decide ((j:Int) < (l.length:Int))=false:=by simp;omega
    obtain rfl:j=l.length:=by omega
    rw [List.take_of_length_le (Nat.le_refl _)] at hF hY
    have HFe:=Lib.hid hF;have HSe:=Lib.hid sS;have HYe:=Lib.hid hY;have Hce:=Lib.hid hc
    clear hF sS hY hc
    go_wp2_with fail
    go_end0
    exact ⟨rfl,_,_,HFe.out,HSe.out,HYe.out,Hce.out⟩
theorem again_all:∀ f,AgC f
 | 0=>fun l i w x B N y c fr a vl vb vz ys vss hnd=>by omega
 | f+1=>again_step (again_all f)
theorem fblock_all:∀ f,FBlockC f
 | 0=>fun l i w x B m N c d vl vb vz ys vss hnd=>by omega
 | f+1=>fblock_step (fblock_all f)
end Go.Proofs.YtdoaeapahgmfoaaGreatDoor

/- Weight, weightOf: the walks. Index, Has: a text in a list. strings.Builder's WriteString, laid; lex.Quote: a text as a str. -/
import Derived.Deep.AppendLies
import Derived.Deep.RegionHeld3
import Derived.Lib.AppendStr
import Derived.Test.YtdoaeapahgmfoaaGreatDoorZ01
import Derived.Test.YtdoaeapahgmfoaaGreatDoorZ07
import Derived.Test.YtdoaeapahgmfoaaGreatDoorZ08
namespace Go.Proofs.YtdoaeapahgmfoaaGreatDoor
open Go.RowKit
theorem StrsAt.lift {B B':Nat} {w w':World} {v:Value} {l:List (List UInt8)} (h:StrsAt w (Lo B) v l) (hb:Below B w w') (hB:B≤B'):StrsAt w' (Lo B') v l:=h.mono (lo_cell hb) fun _ h=>Nat.lt_of_lt_of_le h hB
theorem ExsAt.lift {B B':Nat} {w w':World} {v:Value} {l:List Ex} (h:ExsAt w (Lo B) v l) (hb:Below B w w') (hB:B≤B'):ExsAt w' (Lo B') v l:=h.mono (lo_cell hb) fun _ h=>Nat.lt_of_lt_of_le h hB
theorem StmsAt.lift {B B':Nat} {w w':World} {v:Value} {l:List Stm} (h:StmsAt w (Lo B) v l) (hb:Below B w w') (hB:B≤B'):StmsAt w' (Lo B') v l:=h.mono (lo_cell hb) fun _ h=>Nat.lt_of_lt_of_le h hB
theorem toBA_len (l:List UInt8):(toBA l).size=l.length:=by simp [toBA,ByteArray.size]
def exV (e:Ex) (vp vl:Value):Value:= .agg #[.string (toBA e.op),.int .i64 e.n,.string (toBA e.s),vp,vl]
set_option maxRecDepth 100000 in
set_option maxHeartbeats 20000000 in
theorem weightOf_any:∀ (k:Nat) (e:Ex) (w:World) (vp vl:Value),e.nodes≤k→e.bulk≤1100000→StrsAt w (Lo w.heap.size) vp e.p→ExsAt w (Lo w.heap.size) vl e.l→
 Calls Tryz.prog 30 #[.agg #[.string (toBA e.op),.int .i64 e.n,.string (toBA e.s),vp,vl]] w fun r w'=>r= .returned (.int .i64 (e.w:Int))∧Below w.heap.size w w':=by
 intro k
 induction k with
 | zero=>intro e w vp vl hk;rw [Ex.nodes_l] at hk;omega
 | succ k ih=>
   intro e w vp vl hk hbulk hp hl
   have hnl:=Ex.nodes_l e
   have hwl:=Ex.w_le e
   have hwe:=Ex.w_eq e
   have hbe:=Ex.bulk_eq e
   have hll:=exsBulk_len e.l
   have hpl:=strsBulk_len e.p
   obtain ⟨ap,cp,rfl,_⟩:=hp
   obtain ⟨al,cl,rfl,_,hrow⟩:=hl
   have hS:=toBA_len e.s
   generalize toBA e.s=S at hS ⊢
   generalize toBA e.op=O
   generalize e.n=nn
   have hbA:Below w.heap.size w (w.alloc (.cells #[.string O,.int .i64 nn,.string S,.slice ap e.p.length cp,.slice al e.l.length cl] 71)):=(Below.refl _ _).alloc (Nat.le_refl _) _
   have hblk:=heap_alloc_new w (.cells #[.string O,.int .i64 nn,.string S,.slice ap e.p.length cp,.slice al e.l.length cl] 71)
   have Hih:=Lib.hid ih;have Hrow:=Lib.hid hrow;have Hwe:=Lib.hid hwe;have Hnl:=Lib.hid hnl;have HS:=Lib.hid hS
   have hSb:S.size≤1100000:=by omega
   have hpb:e.p.length≤1100000:=by omega
   have hlb:e.l.length≤1100000:=by omega
   clear ih hrow hwe hnl hS
   go_enter Tryz.func30,Tryz.ntmps30
   go_wp2_with fail
   generalize w.alloc (.cells #[.string O,.int .i64 nn,.string S,.slice ap e.p.length cp,.slice al e.l.length cl] 71)=W at hbA hblk ⊢
   have hxl:=lt_of_blk hblk
   generalize hx:w.heap.size=x at hblk hxl ⊢
   have Hx:=Lib.hid hx;clear hx
   go_loopw [3,4] (fun n i wr=>∃ j:Nat,j≤e.l.length∧i= .int .i64 j∧n= .int .i64 ((1+S.size+e.p.length+exsW (e.l.take j):Nat):Int)∧Below W.heap.size W wr) (fun _ i _=>e.l.length - (intOf i).toNat)
   case atStart=>exact ⟨0,by omega,rfl,by simp [exsW],Below.refl _ _⟩
   case round=>
    obtain ⟨j,hj,rfl,rfl,hbel⟩:=hrel
    have hb4:=(hbel.block x hxl).trans hblk
    have c4:=cell_of_blk (o:=4) hb4
    have hxr:=lt_of_blk hb4
    by_cases hjl:j < e.l.length
    · have t1:decide ((j:Int) < (e.l.length:Int))=true:=by simp;omega
      obtain ⟨b,o,rfl,hbB,hr⟩:=Hrow.out (by omega)
      have hbw:Below w.heap.size w wr:=below_grow hbA hbA.size hbel
      obtain ⟨vp',vl',q0,q1,q2,q3,q4,hp',hl'⟩:=(hr.at_ _ _ _ j hjl).open_
      have hbl':b < w.heap.size:=hbB
      have q0:=(hbw.cell (p:=⟨b,_,none⟩) hbl').trans q0
      have q1:=(hbw.cell (p:=⟨b,_,none⟩) hbl').trans q1
      have q2:=(hbw.cell (p:=⟨b,_,none⟩) hbl').trans q2
      have q3:=(hbw.cell (p:=⟨b,_,none⟩) hbl').trans q3
      have q4:=(hbw.cell (p:=⟨b,_,none⟩) hbl').trans q4
      have hm:=exs_mem (List.getElem_mem hjl)
      have hcall:=Hih.out e.l[j] wr vp' vl' (by have:=Hnl.out;omega) (by omega) (hp'.lift hbw hbw.size) (hl'.lift hbw hbw.size)
      have hst:=exsW_take e.l j hjl
      have hwt:exsW (e.l.take (j+1))≤1100000:=by
       have h1:exsW (e.l.take (j+1))+exsW (e.l.drop (j+1))=exsW e.l:=exsW_split e.l (j+1)
       have:=exsW_le e.l
       omega
      have Hcall:=Lib.hid hcall;have Hst:=Lib.hid hst
      have hwj:exsW (e.l.take j)≤1100000:=by omega
      have hwj2:e.l[j].w≤1100000:=by omega
      clear hr hp' hl' hcall hst hm
      go_wp2_with fail
      refine Hcall.out.mono ?_
      rintro r w2 ⟨rfl,hb2⟩
      have hbel2:=below_grow hbel hbel.size hb2
      clear Hcall hb2
      go_wp2_with fail
      go_roundw
      case rel=>exact ⟨j+1,by omega,by go_num,by rw [Hst.out];go_num,hbel2⟩
      case measure=>simp [intOf];omega
    · have t1:decide ((j:Int) < (e.l.length:Int))=false:=by simp;omega
      obtain rfl:j=e.l.length:=by omega
      have hfin:1+S.size+e.p.length+exsW (e.l.take e.l.length)=e.w:=by rw [List.take_of_length_le (Nat.le_refl _),Hwe.out,HS.out]
      have Hfin:=Lib.hid hfin;clear hfin
      have hbw:Below w.heap.size w wr:=below_grow hbA hbA.size hbel
      go_wp2_with fail
      refine bodyPost_ret (results_tmp rfl _ _ _) rfl ?_
      exact ⟨by rw [← Hfin.out];rfl,hbw⟩
set_option maxRecDepth 100000 in
set_option maxHeartbeats 20000000 in
theorem weight_any:∀ (k:Nat) (l:List Stm) (w:World) (v:Value),stmsNodes l≤k→stmsBulk l≤1100000→StmsAt w (Lo w.heap.size) v l→
 Calls Tryz.prog 9 #[v] w fun r w'=>r= .returned (.int .i64 (stmsW l:Int))∧Below w.heap.size w w':=by
 intro k
 induction k with
 | zero=>
   intro l w v hk hbulk hl
   obtain ⟨a,c,rfl,hrow⟩:=hl
   rcases l with _ | ⟨s,r⟩
   · clear hrow
     go_enter Tryz.func9,Tryz.ntmps9
     go_wp2_with fail
     go_loop [3,4] (fun n i=>n= .int .i64 0∧i= .int .i64 0) (fun _ _=>0)
     case atStart=>exact ⟨rfl,rfl⟩
     case round=>
      obtain ⟨rfl,rfl⟩:=hrel
      go_wp2_with fail
      refine bodyPost_ret (results_tmp rfl _ _ _) rfl ?_
      exact ⟨rfl,Below.refl _ _⟩
   · exfalso;unfold stmsNodes at hk;rw [Stm.nodes_eq] at hk;omega
 | succ k ih=>
   intro l w v hk hbulk hl
   obtain ⟨a,c,rfl,hrow⟩:=hl
   have hll:=stmsBulk_len l
   have hwl:=stmsW_le l
   have Hih:=Lib.hid ih;have Hrow:=Lib.hid hrow
   have hlb:l.length≤1100000:=by omega
   clear ih hrow
   go_enter Tryz.func9,Tryz.ntmps9
   go_wp2_with fail
   go_loopw [3,4] (fun n i wr=>∃ j:Nat,j≤l.length∧i= .int .i64 j∧n= .int .i64 ((stmsW (l.take j):Nat):Int)∧Below w.heap.size w wr) (fun _ i _=>l.length - (intOf i).toNat)
   case atStart=>exact ⟨0,by omega,rfl,by simp [stmsW],Below.refl _ _⟩
   case round=>
    obtain ⟨j,hj,rfl,rfl,hbel⟩:=hrel
    by_cases hjl:j < l.length
    · have t1:decide ((j:Int) < (l.length:Int))=true:=by simp;omega
      obtain ⟨b,o,rfl,hbB,hr⟩:=Hrow.out (by omega)
      obtain ⟨vp,vl,vb,ve,q0,q1,q2,q3,q4,q5,hp,hx,hbd,hel⟩:=(hr.at_ _ _ _ j hjl).open_
      have hbl':b < w.heap.size:=hbB
      have q1:=(hbel.cell (p:=⟨b,_,none⟩) hbl').trans q1
      have q2:=(hbel.cell (p:=⟨b,_,none⟩) hbl').trans q2
      have q3:=(hbel.cell (p:=⟨b,_,none⟩) hbl').trans q3
      have q4:=(hbel.cell (p:=⟨b,_,none⟩) hbl').trans q4
      have q5:=(hbel.cell (p:=⟨b,_,none⟩) hbl').trans q5
      have hm:=stms_mem (List.getElem_mem hjl)
      have hst:=stmsW_take l j hjl
      have hwt:stmsW (l.take (j+1))≤1100000:=by
       have h1:stmsW (l.take (j+1))+stmsW (l.drop (j+1))=stmsW l:=stmsW_split l (j+1)
       omega
      have hne:=Stm.nodes_eq l[j]
      have hbe:=Stm.bulk_eq l[j]
      have hwe:=Stm.w_eq l[j]
      have hpl:=strsBulk_len l[j].p
      obtain ⟨ap,cp,rfl,_⟩:=hp
      have hnm:=toBA_len l[j].name
      have hnmb:(toBA l[j].name).size≤1100000:=by omega
      have hppb:l[j].p.length≤1100000:=by omega
      have hwj:stmsW (l.take j)≤1100000:=by omega
      have hj0:(0:Int)≤(j:Int):=Int.natCast_nonneg _
      have hj1:(j:Int) < (l.length:Int):=by omega
      have hwr:=hbel.size
      have hblr:b < wr.heap.size:=by omega
      have g1:∀ q:GrownOf wr,q.world.cell? ⟨b,o+j * 6+1,none⟩=some (.string (toBA l[j].name)):=fun q=>(q.below.cell (p:=⟨b,_,none⟩) hblr).trans q1
      have g2:∀ q:GrownOf wr,q.world.cell? ⟨b,o+j * 6+2,none⟩=some (.slice ap l[j].p.length cp):=fun q=>(q.below.cell (p:=⟨b,_,none⟩) hblr).trans q2
      have g4:∀ q:GrownOf wr,q.world.cell? ⟨b,o+j * 6+4,none⟩=some vb:=fun q=>(q.below.cell (p:=⟨b,_,none⟩) hblr).trans q4
      have g5:∀ q:GrownOf wr,q.world.cell? ⟨b,o+j * 6+5,none⟩=some ve:=fun q=>(q.below.cell (p:=⟨b,_,none⟩) hblr).trans q5
      have hCb:∀ q:GrownOf wr,Calls Tryz.prog 9 #[vb] q.world fun e w'=>e= .returned (.int .i64 (stmsW l[j].body:Int))∧∃ q':GrownOf wr,w'=q'.world:=fun q=>by
       have hq:=(below_grow hbel hwr q.below)
       exact (Hih.out l[j].body q.world vb (by omega) (by omega) (hbd.lift hq hq.size)).mono fun e w' ⟨h1,h2⟩=>⟨h1,⟨w',q.below.trans (h2.mono q.below.size)⟩,rfl⟩
      have hCe:∀ q:GrownOf wr,Calls Tryz.prog 9 #[ve] q.world fun e w'=>e= .returned (.int .i64 (stmsW l[j].els:Int))∧∃ q':GrownOf wr,w'=q'.world:=fun q=>by
       have hq:=(below_grow hbel hwr q.below)
       exact (Hih.out l[j].els q.world ve (by omega) (by omega) (hel.lift hq hq.size)).mono fun e w' ⟨h1,h2⟩=>⟨h1,⟨w',q.below.trans (h2.mono q.below.size)⟩,rfl⟩
      have HCb:=Lib.hid hCb;have HCe:=Lib.hid hCe
      haveI:Nonempty (GrownOf wr):=⟨⟨wr,Below.refl _ _⟩⟩
      have hbw2:stmsW l[j].body≤1100000:=by have:=stmsW_le l[j].body;omega
      have hew2:stmsW l[j].els≤1100000:=by have:=stmsW_le l[j].els;omega
      have hsum:stmsW (l.take (j+1))=stmsW (l.take j)+1+(toBA l[j].name).size+l[j].p.length+stmsW l[j].body+stmsW l[j].els+exsW l[j].l:=by omega
      have hq3w:w.cell? ⟨b,o+j * 6+3,none⟩=some vl:=(hbel.cell (p:=⟨b,_,none⟩) hbl').symm.trans q3
      have Hq3w:=Lib.hid hq3w;clear hq3w
      have Hsum:=Lib.hid hsum;have Hx:=Lib.hid hx;have Hq3:=Lib.hid q3;have Hbe:=Lib.hid hbe;have Hne:=Lib.hid hne;have Hm:=Lib.hid hm
      clear hCb hCe hbd hel hx hst hsum hm hne hbe hwe hnm q1 q2 q3 q4 q5 q0 hr hpl
      generalize (toBA l[j].name)=NM at g1 hnmb Hsum
      generalize l[j].p.length=PL at g2 hppb Hsum
      generalize stmsW l[j].body=BW at HCb hbw2 Hsum
      generalize stmsW l[j].els=EW at HCe hew2 Hsum
      generalize hN0:stmsW (l.take j)=N0 at hwj Hsum ⊢
      have HN0:=Lib.hid hN0;clear hN0
      go_upto_region 5 with fail
      have e1:IntKind.i64.wrap ((N0:Int)+1)=(N0:Int)+1:=IntWalk.i64_in _ (by omega)
      have e2:IntKind.i64.wrap ((N0:Int)+1+(NM.size:Int))=(N0:Int)+1+(NM.size:Int):=IntWalk.i64_in _ (by omega)
      have e3:IntKind.i64.wrap ((N0:Int)+1+(NM.size:Int)+(PL:Int))=(N0:Int)+1+(NM.size:Int)+(PL:Int):=IntWalk.i64_in _ (by omega)
      have e4:IntKind.i64.wrap ((N0:Int)+1+(NM.size:Int)+(PL:Int)+(BW:Int))=(N0:Int)+1+(NM.size:Int)+(PL:Int)+(BW:Int):=IntWalk.i64_in _ (by omega)
      have e5:IntKind.i64.wrap ((N0:Int)+1+(NM.size:Int)+(PL:Int)+(BW:Int)+(EW:Int))=(N0:Int)+1+(NM.size:Int)+(PL:Int)+(BW:Int)+(EW:Int):=IntWalk.i64_in _ (by omega)
      refine m_region (C:=fun w'=>∃ q:GrownOf wr,w'=q.world) (by kernel_rfl) (by kernel_rfl) ⟨⟨wr.drew,(Below.refl _ _).drew⟩,rfl⟩ ?_
      iterate 22 (go_big_quiet_step ((go_at_call 9;exact HCb.out _)))
      repeat (go_big_quiet_step ((go_at_call 9;exact HCe.out _)))
      refine wpQuiet_nil ?_
      intro _ hw'
      obtain ⟨q,rfl⟩:=hw'
      have hbq:Below w.heap.size w q.world:=below_grow hbel hbel.size q.below
      have c3:=(q.below.cell (p:=⟨b,_,none⟩) hblr).trans Hq3.out
      generalize q.world=W6 at hbq c3 ⊢
      clear e1 e2 e3 e4 e5 g1 g2 g4 g5
      obtain ⟨ax,cx,rfl,_,hrx⟩:=Hx.out
      have Hrx:=Lib.hid hrx;clear hrx
      have hxb:exsBulk l[j].l≤1100000:=by have:=Hbe.out;have:=Hm.out;omega
      have hxl:=exsBulk_len l[j].l
      have hxw:=exsW_le l[j].l
      obtain ⟨N1,hN1⟩:∃ N1:Nat,N1=N0+1+NM.size+PL+BW+EW:=⟨_,rfl⟩
      have hN1i:(N0:Int)+1+(NM.size:Int)+(PL:Int)+(BW:Int)+(EW:Int)=(N1:Int):=by omega
      rw [hN1i]
      have hN1b:N1≤8000000:=by omega
      have Hfin:Hid (stmsW (l.take (j+1))=N1+exsW l[j].l):=Lib.hid (by have:=Hsum.out;omega)
      clear hN1i hN1 Hsum
      go_wp2_with fail
      go_loopw [3,5] (fun n i2 wi=>∃ m:Nat,m≤l[j].l.length∧i2= .int .i64 m∧n= .int .i64 ((N1+exsW (l[j].l.take m):Nat):Int)∧Below w.heap.size w wi) (fun _ i2 _=>l[j].l.length - (intOf i2).toNat)
      case atStart=>exact ⟨0,by omega,rfl,by simp [exsW],hbq⟩
      case round=>
       obtain ⟨m,hm2,rfl,rfl,hbi⟩:=hrel
       have c3':wr.cell? ⟨b,o+j * 6+3,none⟩=some (.slice ax l[j].l.length cx):=(hbi.cell (p:=⟨b,_,none⟩) hbl').trans Hq3w.out
       clear c3
       by_cases hml:m < l[j].l.length
       · have t2:decide ((m:Int) < (l[j].l.length:Int))=true:=by simp;omega
         obtain ⟨b2,o2,rfl,hbB2,hr2⟩:=Hrx.out (by omega)
         obtain ⟨vp',vl',p0,p1,p2,p3,p4,hp',hl'⟩:=(hr2.at_ _ _ _ m hml).open_
         have hbl2:b2 < w.heap.size:=hbB2
         have p0:=(hbi.cell (p:=⟨b2,_,none⟩) hbl2).trans p0
         have p1:=(hbi.cell (p:=⟨b2,_,none⟩) hbl2).trans p1
         have p2:=(hbi.cell (p:=⟨b2,_,none⟩) hbl2).trans p2
         have p3:=(hbi.cell (p:=⟨b2,_,none⟩) hbl2).trans p3
         have p4:=(hbi.cell (p:=⟨b2,_,none⟩) hbl2).trans p4
         have hme:=exs_mem (List.getElem_mem hml)
         have hcall:=weightOf_any _ (l[j].l[m]) wr vp' vl' (Nat.le_refl _) (by omega) (hp'.lift hbi hbi.size) (hl'.lift hbi hbi.size)
         have hst:=exsW_take l[j].l m hml
         have hwt:exsW (l[j].l.take (m+1))≤1100000:=by
          have h1:=exsW_split l[j].l (m+1)
          omega
         have hwm:exsW (l[j].l.take m)≤1100000:=by omega
         have hwm2:l[j].l[m].w≤1100000:=by omega
         have Hcall:=Lib.hid hcall;have Hst:=Lib.hid hst
         clear hr2 hp' hl' hcall hst hme
         go_wp2_with fail
         refine Hcall.out.mono ?_
         rintro r w2 ⟨rfl,hb2⟩
         have hbi2:=below_grow hbi hbi.size hb2
         clear Hcall hb2
         go_wp2_with fail
         go_roundw
         case rel=>exact ⟨m+1,by omega,by go_num,by rw [Hst.out];go_num,hbi2⟩
         case measure=>simp [intOf];omega
       · have t2:decide ((m:Int) < (l[j].l.length:Int))=false:=by simp;omega
         obtain rfl:m=l[j].l.length:=by omega
         have hfl:exsW (l[j].l.take l[j].l.length)=exsW l[j].l:=by rw [List.take_of_length_le (Nat.le_refl _)]
         have Hfl:=Lib.hid hfl;clear hfl
         go_wp2_with fail
         go_roundw
         case rel=>exact ⟨j+1,by omega,by go_num,by rw [Hfin.out,Hfl.out],hbi⟩
         case measure=>simp [intOf];omega
    · have t1:decide ((j:Int) < (l.length:Int))=false:=by simp;omega
      obtain rfl:j=l.length:=by omega
      have hfl:stmsW (l.take l.length)=stmsW l:=by rw [List.take_of_length_le (Nat.le_refl _)]
      have Hfl:=Lib.hid hfl;clear hfl
      go_wp2_with fail
      refine bodyPost_ret (results_tmp rfl _ _ _) rfl ?_
      exact ⟨by rw [← Hfl.out];rfl,hbel⟩
end Go.Proofs.YtdoaeapahgmfoaaGreatDoor
namespace Go.Proofs.YtdoaeapahgmfoaaGreatDoor
open Go.RowKit
def indexL (zs:List (List UInt8)) (s:List UInt8):Int:=match zs.findIdx? (· == s) with
 | some i=>(i:Int)
 | none=> -1
theorem findIdx_take {zs:List (List UInt8)} {s:List UInt8} {j:Nat} (hj:j < zs.length) (h:∀ i (hi:i < zs.length),i < j→zs[i]≠s) (he:zs[j]=s):zs.findIdx? (· == s)=some j:=by
 rw [List.findIdx?_eq_some_iff_getElem]
 refine ⟨hj,by simp [he],fun i hi=> ?_⟩
 have:=h i (by omega) hi
 simpa using this
theorem findIdx_none {zs:List (List UInt8)} {s:List UInt8} (h:∀ i (hi:i < zs.length),zs[i]≠s):zs.findIdx? (· == s)=none:=by
 rw [List.findIdx?_eq_none_iff]
 intro x hx
 obtain ⟨i,hi,rfl⟩:=List.getElem_of_mem hx
 simpa using h i hi
theorem indexL_has (zs:List (List UInt8)) (s:List UInt8):decide (0≤indexL zs s)=zs.contains s:=by
 unfold indexL
 rcases h:zs.findIdx? (· == s) with _ | i
 · rw [List.findIdx?_eq_none_iff] at h
   have:zs.contains s=false:=by
    rw [List.contains_eq_mem,decide_eq_false_iff_not]
    intro hm
    have:=h s hm
    simp at this
   rw [this];rfl
 · rw [List.findIdx?_eq_some_iff_getElem] at h
   obtain ⟨hi,he,_⟩:=h
   have:zs.contains s=true:=by
    rw [List.contains_eq_mem,decide_eq_true_iff]
    have e:zs[i]=s:=by simpa using he
    rw [← e];exact List.getElem_mem hi
   rw [this];simp
end Go.Proofs.YtdoaeapahgmfoaaGreatDoor
namespace Go.Proofs.YtdoaeapahgmfoaaGreatDoor
open Go.RowKit
theorem index_hex:∀ (q:Fin 16) (w:World),(Instr.index 9 (.string ⟨#[48,49,50,51,52,53,54,55,56,57,97,98,99,100,101,102]⟩) (.int .u8 (q.val:Int))).run Tryz.prog w= .ok (.int .u8 ((hexD q.val).toNat:Int)) w
 | ⟨0,_⟩,_=>by kernel_rfl
 | ⟨1,_⟩,_=>by kernel_rfl
 | ⟨2,_⟩,_=>by kernel_rfl
 | ⟨3,_⟩,_=>by kernel_rfl
 | ⟨4,_⟩,_=>by kernel_rfl
 | ⟨5,_⟩,_=>by kernel_rfl
 | ⟨6,_⟩,_=>by kernel_rfl
 | ⟨7,_⟩,_=>by kernel_rfl
 | ⟨8,_⟩,_=>by kernel_rfl
 | ⟨9,_⟩,_=>by kernel_rfl
 | ⟨10,_⟩,_=>by kernel_rfl
 | ⟨11,_⟩,_=>by kernel_rfl
 | ⟨12,_⟩,_=>by kernel_rfl
 | ⟨13,_⟩,_=>by kernel_rfl
 | ⟨14,_⟩,_=>by kernel_rfl
 | ⟨15,_⟩,_=>by kernel_rfl
 | ⟨n+16,h⟩,_=>absurd h (by omega)
theorem and15:∀ n:Fin 256,bits BinOp.and IntKind.u8 (n.val:Int) 15=((n.val % 16:Nat):Int):=by decide +kernel
def qSo (s:ByteArray) (k:Nat):List UInt8:= [34] ++ qL (s.data.toList.take k)
theorem qSo_next {s:ByteArray} {k:Nat} (hlt:k < s.size):qSo s (k+1)=qSo s k ++ qB (s[k]'hlt):=by
 have hl:k < s.data.toList.length:=by simpa using hlt
 unfold qSo
 rw [List.take_succ_eq_append_getElem hl,qL_snoc,List.append_assoc]
 rfl
theorem qSo_len (s:ByteArray) (k:Nat):(qSo s k).length≤1+4 * k:=by
 have:=qL_len (s.data.toList.take k)
 simp only [qSo,List.length_append,List.length_cons,List.length_nil,List.length_take] at *
 omega
theorem own_app {B:Nat} {v:Value} {acc l:List UInt8} {w:World} {n:Nat} {xs:List Value} (hx:xs=byteCells l) (hn:n=acc.length+l.length) (h:w.ownsRow B 5 1 v n (byteCells acc ++ xs)):
 w.ownsRow B 5 1 v (acc ++ l).length (byteCells (acc ++ l)):=by
 subst hx;subst hn
 simpa [byteCells] using h
theorem below_app0 {B:Nat} {w wr w1:World} {T sz n:Nat} {v:Value} {xs:List Value} (hbel:Below B w wr) (hown:wr.ownsRow B T sz v n xs) (hg:wr.grownBy w1 v.ownBlock) (hB:B≤wr.heap.size):Below B w w1:=
 hbel.grown hg (by omega) (fun k hk=>(hown.lt k hk).1)
set_option maxRecDepth 100000 in
set_option maxHeartbeats 20000000 in
theorem quote_any (s:ByteArray) (w:World) (hs:s.size≤6000):
 Calls Tryz.prog 98 #[.string s] w fun e w'=>e= .returned (.string (toBA (quotedL s.data.toList)))∧Below w.heap.size w w':=by
 obtain ⟨i0,hi,hz0,hz1,hz2⟩:=info_parts Tryz.infoByte
 have hsl:s.size≤6000:=hs
 go_enter Tryz.func98,Tryz.ntmps98
 go_wp2_with fail
 have hown0:(w.alloc (.cells #[.int .u8 34] 5)).ownsRow w.heap.size 5 1 (.slice (some ⟨w.heap.size,0,none⟩) 1 1) (qSo s 0).length (byteCells (qSo s 0)):=
  ⟨by simp [qSo,qL,byteCells],.inr ⟨w.heap.size,1,#[.int .u8 34],rfl,Nat.le_refl _,heap_alloc_new _ _,by simp [qSo,qL],by simp [maxLen],by simp,by simp [qSo,qL,byteCells]⟩⟩
 go_loopw [3,9] (fun v i wr=>∃ k:Nat,k≤s.size∧i= .int .i64 k∧wr.ownsRow w.heap.size 5 1 v (qSo s k).length (byteCells (qSo s k))∧Below w.heap.size w wr) (fun _ i _=>s.size - (intOf i).toNat)
 case atStart=>exact ⟨0,by omega,rfl,hown0,(Below.refl _ _).alloc (Nat.le_refl _) _⟩
 case round=>
  obtain ⟨k,hk,rfl,hown,hbel⟩:=hrel
  clear hown0
  have hql:=qSo_len s k
  have hBw:=hbel.size
  by_cases hlt:k < s.size
  · have t1:decide ((k:Int) < (s.size:Int))=true:=by simp;omega
    have hnext:=qSo_next hlt
    obtain ⟨c,hc⟩:∃ c,c=s[k]'hlt:=⟨_,rfl⟩
    rw [← hc] at hnext
    have hc256:=c.toNat_lt
    unfold qB at hnext
    by_cases h10:c.toNat=10
    · rw [if_pos h10] at hnext
      have u1:(((s[k]'hlt).toNat:Int) == 10)=true:=by rw [← hc,h10];rfl
      have Hn:=Lib.hid hnext;clear hnext h10 hc hc256
      go_wp2_with (at_builtin;refine Lib.wpList_append_own_string (w:=wr) rfl (.tmp 22) (.const (.string ⟨#[92,110]⟩)) 75 9 rfl w.heap.size 5 i0 Tryz.underlying75 Tryz.underlying9 hi hz0 hz1 hz2 _ (qSo s k).length (byteCells (qSo s k)) rfl hown ⟨#[92,110]⟩ rfl (by unfold maxLen;show (qSo s k).length+2≤_;omega) (by show (qSo s k).length+2≤_;omega) hBw ?_;intro v' w1 hown1 hgrow1 _)
      go_roundw
      case rel=>exact ⟨k+1,by omega,by go_num,by rw [Hn.out];exact own_app (l:= [92,110]) (by rfl) (by rfl) hown1,below_app0 hbel hown hgrow1 hBw⟩
      case measure=>simp [intOf];omega
    · rw [if_neg h10] at hnext
      have u1:(((s[k]'hlt).toNat:Int) == 10)=false:=by rw [beq_eq_false_iff_ne,← hc];omega
      by_cases hq:c.toNat=34∨c.toNat=92
      · rw [if_pos hq] at hnext
        have Hn:=Lib.hid hnext;clear hnext h10
        have Hc:=Lib.hid hc
        rcases hq with hq | hq
        · have u2:(((s[k]'hlt).toNat:Int) == 34)=true:=by rw [← hc,hq];rfl
          clear hc hq hc256
          go_wp2_with (at_builtin;refine wpList_append_own (wr.alloc (.cells #[.int .u8 92,.int .u8 ((s[k]'hlt).toNat:Int)] 5)) rfl (.tmp 31) (.tmp 33) 75 rfl w.heap.size 5 i0 _ 1 1 Tryz.underlying75 hi hz0 hz1 hz2 rfl (by decide) _ (qSo s k).length (byteCells (qSo s k)) rfl (hown.alloc _) ⟨wr.heap.size,0,none⟩ 2 2 [.int .u8 92,.int .u8 ((s[k]'hlt).toNat:Int)] rfl rfl (World.news_of_block (cs:= #[.int .u8 92,.int .u8 ((s[k]'hlt).toNat:Int)]) (heap_alloc_new wr _)) (by simp [Value.oneCell']) (by unfold maxLen;omega) (by omega) (by simp;omega) ?_;intro v' w1 hown1 hgrow1 _)
          go_roundw
          case rel=>exact ⟨k+1,by omega,by go_num,by rw [Hn.out];exact own_app (l:= [92,c]) (by rw [Hc.out];rfl) (by rfl) hown1,below_app hbel hown hgrow1 hBw⟩
          case measure=>simp [intOf];omega
        · have u2:(((s[k]'hlt).toNat:Int) == 34)=false:=by rw [beq_eq_false_iff_ne,← hc];omega
          have u3:(((s[k]'hlt).toNat:Int) == 92)=true:=by rw [← hc,hq];rfl
          clear hc hq hc256
          go_wp2_with (at_builtin;refine wpList_append_own (wr.alloc (.cells #[.int .u8 92,.int .u8 ((s[k]'hlt).toNat:Int)] 5)) rfl (.tmp 31) (.tmp 33) 75 rfl w.heap.size 5 i0 _ 1 1 Tryz.underlying75 hi hz0 hz1 hz2 rfl (by decide) _ (qSo s k).length (byteCells (qSo s k)) rfl (hown.alloc _) ⟨wr.heap.size,0,none⟩ 2 2 [.int .u8 92,.int .u8 ((s[k]'hlt).toNat:Int)] rfl rfl (World.news_of_block (cs:= #[.int .u8 92,.int .u8 ((s[k]'hlt).toNat:Int)]) (heap_alloc_new wr _)) (by simp [Value.oneCell']) (by unfold maxLen;omega) (by omega) (by simp;omega) ?_;intro v' w1 hown1 hgrow1 _)
          go_roundw
          case rel=>exact ⟨k+1,by omega,by go_num,by rw [Hn.out];exact own_app (l:= [92,c]) (by rw [Hc.out];rfl) (by rfl) hown1,below_app hbel hown hgrow1 hBw⟩
          case measure=>simp [intOf];omega
      · rw [if_neg hq] at hnext
        have u2:(((s[k]'hlt).toNat:Int) == 34)=false:=by rw [beq_eq_false_iff_ne,← hc];omega
        have u3:(((s[k]'hlt).toNat:Int) == 92)=false:=by rw [beq_eq_false_iff_ne,← hc];omega
        by_cases hr:c.toNat < 32∨126 < c.toNat
        · rw [if_pos hr] at hnext
          have Hn:=Lib.hid hnext;clear hnext h10 hq
          have Hc:=Lib.hid hc
          rcases hr with hr | hr
          · have u4:decide (((s[k]'hlt).toNat:Int) < 32)=true:=by rw [← hc];simp;omega
            obtain ⟨q1,hq1⟩:∃ q1,q1=c.toNat / 16:=⟨_,rfl⟩
            obtain ⟨q2,hq2⟩:∃ q2,q2=c.toNat % 16:=⟨_,rfl⟩
            have hx1:∀ w:World,(Instr.index 9 (.string ⟨#[48,49,50,51,52,53,54,55,56,57,97,98,99,100,101,102]⟩) (.int .u8 (((s[k]'hlt).toNat:Int) / 16))).run Tryz.prog w= .ok (.int .u8 ((hexD q1).toNat:Int)) w:=by
             intro w
             have h:=index_hex ⟨q1,by omega⟩ w
             rw [← hc,show (c.toNat:Int) / 16=(q1:Int) by omega]
             exact h
            have hx2:∀ w:World,(Instr.index 9 (.string ⟨#[48,49,50,51,52,53,54,55,56,57,97,98,99,100,101,102]⟩) (.int .u8 (q2:Int))).run Tryz.prog w= .ok (.int .u8 ((hexD q2).toNat:Int)) w:=fun w=>index_hex ⟨q2,by omega⟩ w
            have hand:bits BinOp.and IntKind.u8 ((s[k]'hlt).toNat:Int) 15=(q2:Int):=by rw [← hc,hq2];exact and15 ⟨c.toNat,hc256⟩
            have Hn2:=Lib.hid (show qSo s (k+1)=qSo s k ++ [92,120,hexD q1,hexD q2] by rw [Hn.out,hq1,hq2])
            clear hq1 hq2 hc hr hc256
            go_upto_region 12 with fail
            go_region_law ((refine step_append_lies _ (by rfl) _ _ _ (by rfl) w.heap.size 5 i0 _ 1 1 Tryz.underlying75 hi hz0 hz1 hz2 rfl (by decide) _ (qSo s k).length (byteCells (qSo s k)) (by rfl) (hown.drew.alloc _) ⟨wr.heap.size,0,none⟩ 4 4 [.int .u8 92,.int .u8 120,.int .u8 ((hexD q1).toNat:Int),.int .u8 ((hexD q2).toNat:Int)] (by rfl) (by rfl) (World.news_of_block (cs:= #[.int .u8 92,.int .u8 120,.int .u8 ((hexD q1).toNat:Int),.int .u8 ((hexD q2).toNat:Int)]) (t:=5) (fr:=(0,0)) (heap_alloc_new wr.drew _)) (by simp [Value.oneCell']) (by omega) (by unfold maxLen;omega) (by omega) (by simp;omega) (wr.heap.size+1) (by simp) ?_;intro gg cap1 w1 hown1 hgrow1 hat hlt1))
            all_goals
             (go_wp2_with fail
              go_roundw
              case rel=>exact ⟨k+1,by omega,by go_num,by rw [Hn2.out];exact own_app (l:= [92,120,hexD q1,hexD q2]) (by rfl) (by rfl) hown1,below_app hbel.drew hown.drew hgrow1 hBw⟩
              case measure=>simp [intOf];omega)
          · have u4:decide (((s[k]'hlt).toNat:Int) < 32)=false:=by rw [← hc];simp;omega
            have u5:decide ((126:Int) < ((s[k]'hlt).toNat:Int))=true:=by rw [← hc];simp;omega
            obtain ⟨q1,hq1⟩:∃ q1,q1=c.toNat / 16:=⟨_,rfl⟩
            obtain ⟨q2,hq2⟩:∃ q2,q2=c.toNat % 16:=⟨_,rfl⟩
            have hx1:∀ w:World,(Instr.index 9 (.string ⟨#[48,49,50,51,52,53,54,55,56,57,97,98,99,100,101,102]⟩) (.int .u8 (((s[k]'hlt).toNat:Int) / 16))).run Tryz.prog w= .ok (.int .u8 ((hexD q1).toNat:Int)) w:=by
             intro w
             have h:=index_hex ⟨q1,by omega⟩ w
             rw [← hc,show (c.toNat:Int) / 16=(q1:Int) by omega]
             exact h
            have hx2:∀ w:World,(Instr.index 9 (.string ⟨#[48,49,50,51,52,53,54,55,56,57,97,98,99,100,101,102]⟩) (.int .u8 (q2:Int))).run Tryz.prog w= .ok (.int .u8 ((hexD q2).toNat:Int)) w:=fun w=>index_hex ⟨q2,by omega⟩ w
            have hand:bits BinOp.and IntKind.u8 ((s[k]'hlt).toNat:Int) 15=(q2:Int):=by rw [← hc,hq2];exact and15 ⟨c.toNat,hc256⟩
            have Hn2:=Lib.hid (show qSo s (k+1)=qSo s k ++ [92,120,hexD q1,hexD q2] by rw [Hn.out,hq1,hq2])
            clear hq1 hq2 hc hr hc256
            go_upto_region 12 with fail
            go_region_law ((refine step_append_lies _ (by rfl) _ _ _ (by rfl) w.heap.size 5 i0 _ 1 1 Tryz.underlying75 hi hz0 hz1 hz2 rfl (by decide) _ (qSo s k).length (byteCells (qSo s k)) (by rfl) (hown.drew.alloc _) ⟨wr.heap.size,0,none⟩ 4 4 [.int .u8 92,.int .u8 120,.int .u8 ((hexD q1).toNat:Int),.int .u8 ((hexD q2).toNat:Int)] (by rfl) (by rfl) (World.news_of_block (cs:= #[.int .u8 92,.int .u8 120,.int .u8 ((hexD q1).toNat:Int),.int .u8 ((hexD q2).toNat:Int)]) (t:=5) (fr:=(0,0)) (heap_alloc_new wr.drew _)) (by simp [Value.oneCell']) (by omega) (by unfold maxLen;omega) (by omega) (by simp;omega) (wr.heap.size+1) (by simp) ?_;intro gg cap1 w1 hown1 hgrow1 hat hlt1))
            all_goals
             (go_wp2_with fail
              go_roundw
              case rel=>exact ⟨k+1,by omega,by go_num,by rw [Hn2.out];exact own_app (l:= [92,120,hexD q1,hexD q2]) (by rfl) (by rfl) hown1,below_app hbel.drew hown.drew hgrow1 hBw⟩
              case measure=>simp [intOf];omega)
        · rw [if_neg hr] at hnext
          have Hn:=Lib.hid hnext;clear hnext h10 hq
          have u4:decide (((s[k]'hlt).toNat:Int) < 32)=false:=by rw [← hc];simp;omega
          have u5:decide ((126:Int) < ((s[k]'hlt).toNat:Int))=false:=by rw [← hc];simp;omega
          have Hc:=Lib.hid hc;clear hr hc hc256
          go_wp2_with (at_builtin;refine wpList_append_own (wr.alloc (.cells #[.int .u8 ((s[k]'hlt).toNat:Int)] 5)) rfl (.tmp 15) (.tmp 17) 75 rfl w.heap.size 5 i0 _ 1 1 Tryz.underlying75 hi hz0 hz1 hz2 rfl (by decide) _ (qSo s k).length (byteCells (qSo s k)) rfl (hown.alloc _) ⟨wr.heap.size,0,none⟩ 1 1 [.int .u8 ((s[k]'hlt).toNat:Int)] rfl rfl (World.news_of_block (cs:= #[.int .u8 ((s[k]'hlt).toNat:Int)]) (heap_alloc_new wr _)) (by simp [Value.oneCell']) (by unfold maxLen;omega) (by omega) (by simp;omega) ?_;intro v' w1 hown1 hgrow1 _)
          go_roundw
          case rel=>exact ⟨k+1,by omega,by go_num,by rw [Hn.out];exact own_app (l:= [c]) (by rw [Hc.out];rfl) (by rfl) hown1,below_app hbel hown hgrow1 hBw⟩
          case measure=>simp [intOf];omega
  · have hke:k=s.size:=by omega
    subst hke
    have t1:decide ((s.size:Int) < (s.size:Int))=false:=by simp
    have hfin:qSo s s.size ++ [34]=quotedL s.data.toList:=by
     unfold qSo quotedL
     rw [List.take_of_length_le (by simp)]
    go_wp2_with (at_builtin;refine wpList_append_own (wr.alloc (.cells #[.int .u8 34] 5)) rfl (.tmp 52) (.tmp 53) 75 rfl w.heap.size 5 i0 _ 1 1 Tryz.underlying75 hi hz0 hz1 hz2 rfl (by decide) _ (qSo s s.size).length (byteCells (qSo s s.size)) rfl (hown.alloc _) ⟨wr.heap.size,0,none⟩ 1 1 [.int .u8 34] rfl rfl (World.news_of_block (cs:= #[.int .u8 34]) (heap_alloc_new wr _)) (by simp [Value.oneCell']) (by unfold maxLen;omega) (by omega) (by simp;omega) ?_;intro v' w1 hown1 hgrow1 _;have hown2:=own_app (l:= [34]) (by rfl) (by rfl) hown1;have hcv:=conv_own hown2)
    refine bodyPost_ret (results_tmp rfl _ _ _) rfl ?_
    exact ⟨rfl,below_app hbel hown hgrow1 hBw⟩
end Go.Proofs.YtdoaeapahgmfoaaGreatDoor

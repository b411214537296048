/- The writer's statements: what is given, what is claimed; a block, where statements are given. -/
import Derived.Test.YtdoaeapahgmfoaaGreatDoorZ22
import Derived.Test.YtdoaeapahgmfoaaGreatDoorZ23
import Derived.Test.YtdoaeapahgmfoaaGreatDoorZ24
import Derived.Test.YtdoaeapahgmfoaaGreatDoorZ25
namespace Go.Proofs.YtdoaeapahgmfoaaGreatDoor
open Go.RowKit
mutual
def Stm.fit:Stm→Prop
 | .mk _ _ _ l b e=>exsFit l∧stmsFit b∧stmsFit e
def stmsFit:List Stm→Prop
 | []=>True
 | s :: r=>s.fit∧stmsFit r
end
theorem Stm.fit_eq (s:Stm):s.fit ↔ exsFit s.l∧stmsFit s.body∧stmsFit s.els:=by rcases s with ⟨_,_,_,_,_,_⟩;unfold Stm.fit;exact Iff.rfl
theorem stmsFit_mem:∀ {l:List Stm} {s:Stm},stmsFit l→s ∈ l→s.fit
 | a :: r,s,h,hm=>by
   unfold stmsFit at h
   rcases List.mem_cons.1 hm with rfl | hm
   · exact h.1
   · exact stmsFit_mem h.2 hm
structure StmIn (s:Stm) (deep:Nat) (w:World) (x:Nat) (st:WS) (p v:Value) (l:List UInt8) (vp vl vb ve:Value):Prop where
 fit:s.fit
 bulk:s.bulk≤1100000
 wt:s.w≤6000
 deepB:deep+s.nodes≤4000000
 n:st.n+8 * s.nodes≤40000001
 inn:st.inn+s.nodes≤1500000
 len:st.len+20000000 * s.bulk≤80000000000000
 wr:WrC w x st p v l
 glob:GlobT x w
 ps:StrsAt w (Lo x) vp s.p
 ls:ExsAt w (Lo x) vl s.l
 bs:StmsAt w (Lo x) vb s.body
 es:StmsAt w (Lo x) ve s.els
def StmC (f:Nat):Prop:=∀ (s:Stm) (deep:Nat) (w:World) (x:Nat) (st:WS) (p v:Value) (l:List UInt8) (vp vl vb ve:Value),s.nodes≤f→StmIn s deep w x st p v l vp vl vb ve→
 Calls Tryz.prog 33 #[.pointer (some ⟨x,0,none⟩),.agg #[.string (toBA s.kind),.string (toBA s.name),vp,vl,vb,ve],.int .i64 (deep:Int)] w (WrPost x w st (8 * s.nodes - 1) (20000000 * s.bulk) fun st'=>(st'.ok=true→s.named)∧SW s deep st st')
def IfsC (f:Nat):Prop:=∀ (s:Stm) (word:ByteArray) (deep:Nat) (w:World) (x:Nat) (st:WS) (p v:Value) (l:List UInt8) (vp vl vb ve:Value),s.nodes≤f→s.l.length=1→word.size≤10→StmIn s deep w x st p v l vp vl vb ve→
 Calls Tryz.prog 69 #[.pointer (some ⟨x,0,none⟩),.string word,.agg #[.string (toBA s.kind),.string (toBA s.name),vp,vl,vb,ve],.int .i64 (deep:Int)] w (WrPost x w st (8 * s.nodes - 1) (20000000 * s.bulk) fun st'=>(st'.ok=true→stmsNamed s.body∧stmsNamed s.els)∧IW word.size s deep st st')
def BlockC (f:Nat):Prop:=∀ (ss:List Stm) (dv:Int) (deep:Nat) (w:World) (x:Nat) (st:WS) (p v:Value) (l:List UInt8) (vs:Value),dv=(deep:Int)→stmsNodes ss≤f→stmsFit ss→stmsBulk ss≤1100000→stmsW ss≤6000→deep+stmsNodes ss≤4000000→st.n+8 * stmsNodes ss≤40000000→st.inn+1+stmsNodes ss≤1500000→
 st.len+20000000 * stmsBulk ss≤80000000000000→WrC w x st p v l→GlobT x w→StmsAt w (Lo x) vs ss→
 Calls Tryz.prog 70 #[.pointer (some ⟨x,0,none⟩),vs,.int .i64 dv] w (WrPost x w st (8 * stmsNodes ss) (20000000 * stmsBulk ss) fun st'=>(st'.ok=true→stmsNamed ss)∧BW ss deep st st')
theorem stmsBulk_take (l:List Stm) (j:Nat) (hj:j < l.length):stmsBulk (l.take (j+1))=stmsBulk (l.take j)+l[j].bulk:=by
 induction l generalizing j with
 | nil=>simp at hj
 | cons e r ih=>
   cases j with
   | zero=>simp [stmsBulk]
   | succ j=>
     have:=ih j (by simpa using hj)
     simp only [List.take_succ_cons,stmsBulk,List.getElem_cons_succ]
     omega
theorem stmsNodes_take (l:List Stm) (j:Nat) (hj:j < l.length):stmsNodes (l.take (j+1))=stmsNodes (l.take j)+l[j].nodes:=by
 induction l generalizing j with
 | nil=>simp at hj
 | cons e r ih=>
   cases j with
   | zero=>simp [stmsNodes]
   | succ j=>
     have:=ih j (by simpa using hj)
     simp only [List.take_succ_cons,stmsNodes,List.getElem_cons_succ]
     omega
theorem stmsNamed_take (l:List Stm) (j:Nat) (hj:j < l.length) (h:stmsNamed (l.take j)) (h2:l[j].named):stmsNamed (l.take (j+1)):=by
 induction l generalizing j with
 | nil=>simp at hj
 | cons e r ih=>
   cases j with
   | zero=>simp only [List.take_succ_cons,List.take_zero,stmsNamed];exact ⟨h2,trivial⟩
   | succ j=>
     simp only [List.take_succ_cons,stmsNamed] at h ⊢
     exact ⟨h.1,ih j (by simpa using hj) h.2 h2⟩
theorem stmsNodes_le (l:List Stm) (j:Nat):stmsNodes (l.take j)≤stmsNodes l:=by
 induction l generalizing j with
 | nil=>simp [stmsNodes]
 | cons e r ih=>cases j with
   | zero=>simp [stmsNodes]
   | succ j=>have:=ih j;simp only [List.take_succ_cons,stmsNodes];omega
theorem stmsBulk_le (l:List Stm) (j:Nat):stmsBulk (l.take j)≤stmsBulk l:=by
 induction l generalizing j with
 | nil=>simp [stmsBulk]
 | cons e r ih=>cases j with
   | zero=>simp [stmsBulk]
   | succ j=>have:=ih j;simp only [List.take_succ_cons,stmsBulk];omega
structure LoopW (x:Nat) (w wr:World) (st st1:WS) (k m:Nat) (p v:Value) (l:List UInt8):Prop where
 nx:Nx st st1 k m
 wc:WrC wr x st1 p v l
 stp:WStp x w wr
theorem WrC.incIn {w:World} {x:Nat} {st:WS} {p v:Value} {l:List UInt8} (h:WrC w x st p v l):WrC (w.setCell ⟨x,2,none⟩ (.int .i64 ((st.inn:Int)+1))) x { st with inn:=st.inn+1 } p v l∧WStp x w (w.setCell ⟨x,2,none⟩ (.int .i64 ((st.inn:Int)+1))):=by
 have:=h.setIn (st.inn+1)
 rwa [show ((st.inn+1:Nat):Int)=(st.inn:Int)+1 by omega] at this
set_option maxRecDepth 100000 in
set_option maxHeartbeats 20000000 in
theorem block_of {f:Nat} (hs:StmC f):BlockC f:=by
 intro ss dv deep w x st p v l vs hdv hf hft hbk hwt hdp hn hinn hlen h hg hss
 subst hdv
 obtain ⟨a,c,rfl,hr⟩:=hss
 have Hs:=Lib.hid hs;have Hr:=Lib.hid hr;have Hft:=Lib.hid hft;have HH:=Lib.hid h;have Hg:=Lib.hid hg
 have hsl:=stmsBulk_len ss
 have hms:∀ b:Bool,Calls Tryz.prog 63 #[.pointer (some ⟨x,0,none⟩),.bool b] w fun e w'=>e= .returned (.tuple #[])∧WrC w' x (st.must b) p v l∧WStp x w w':=fun b=>must_any h b
 have Hms:=Lib.hid hms
 clear hs hr hft hms h hg
 by_cases h0:0 < ss.length
 · have a1:decide (0 < ss.length)=true:=by rw [decide_eq_true_iff];exact h0
   have a2:decide ((0:Int) < (ss.length:Int))=true:=by rw [decide_eq_true_iff];omega
   by_cases hd12:deep≤12
   · have b1:decide ((deep:Int)≤12)=true:=by rw [decide_eq_true_iff];omega
     have b2:decide (deep≤12)=true:=by rw [decide_eq_true_iff];exact hd12
     go_enter Tryz.func70,Tryz.ntmps70
     go_wp2_with fail
     refine (Hms.out true).mono ?_
     rintro _ w2 ⟨rfl,h2,s2⟩
     have c2:w2.cell? ⟨x,2,none⟩=some (.int .i64 (st.inn:Int)):=h2.c2
     have f2:=h2.f 2
     have x2:=h2.lt
     obtain ⟨hI,sI⟩:=h2.incIn
     change WrC (w2.setCell ⟨x,2,none⟩ (.int .i64 ((st.inn:Int)+1))) x _ p v l at hI
     change WStp x w2 (w2.setCell ⟨x,2,none⟩ (.int .i64 ((st.inn:Int)+1))) at sI
     have hI':=hI
     have eI:({ (st.must true) with inn:=st.inn+1 }:WS)= { (st.must true) with inn:=(st.must true).inn+1 }:=rfl
     rw [← eI] at hI'
     have hnI:({ (st.must true) with inn:=st.inn+1 }:WS).n=st.n∧({ (st.must true) with inn:=st.inn+1 }:WS).inn=st.inn+1∧({ (st.must true) with inn:=st.inn+1 }:WS).len=st.len∧(({ (st.must true) with inn:=st.inn+1 }:WS).ok=true→st.ok=true):=⟨rfl,rfl,rfl,fun h=>(must_ok h).1⟩
     generalize hstI:({ (st.must true) with inn:=st.inn+1 }:WS)=stI at hI' hnI
     have KI:=Lib.hid hstI
     clear hstI
     obtain ⟨n1,n2,n3,n4⟩:=hnI
     have m1:stI.n≤st.n:=by omega
     have m2:stI.inn≤st.inn+1:=by omega
     have m3:stI.len≤st.len:=by omega
     have N1:=Lib.hid n1;have N2:=Lib.hid n2;have N3:=Lib.hid n3;have N4:=Lib.hid n4;have HI:=Lib.hid hI';have SI:=Lib.hid (s2.trans sI)
     clear hI hI' sI eI n1 n2 n3 n4 h2 s2
     go_wp2_with fail
     go_loopw [26] (fun i wr=>∃ (j:Nat) (st1:WS) (p1 v1:Value) (l1:List UInt8),j≤ss.length∧i= .int .i64 j∧LoopW x w wr stI st1 (8 * stmsNodes (ss.take j)) (20000000 * stmsBulk (ss.take j)) p1 v1 l1∧(st1.ok=true→stmsNamed (ss.take j))∧RW (ss.take j) deep stI st1) (fun i _=>ss.length - (intOf i).toNat)
     case atStart=>exact ⟨0,stI,p,v,l,by omega,rfl,⟨Nx.refl _ _ _,HI.out,SI.out⟩,fun _=>(by simp [stmsNamed]),RW.nil _ _⟩
     case round=>
      obtain ⟨j,st1,p1,v1,l1,hj,rfl,hL,hnamed,hrw⟩:=hrel
      have HRW:=Lib.hid hrw
      clear hrw
      have hbel:=WStp.below HH.out hL.stp
      by_cases hjl:j < ss.length
      · have t1:decide ((j:Int) < (ss.length:Int))=true:=by simp;omega
        obtain ⟨b,o,rfl,hbx,hrow⟩:=Hr.out (by omega)
        obtain ⟨vp,vl,vb,ve,q0,q1,q2,q3,q4,q5,hp,hx,hbd,hel⟩:=(hrow.at_ _ _ _ j hjl).open_
        have hbx':b < x:=hbx
        have q0:=(hbel.cell (p:=⟨b,_,none⟩) hbx').trans q0
        have q1:=(hbel.cell (p:=⟨b,_,none⟩) hbx').trans q1
        have q2:=(hbel.cell (p:=⟨b,_,none⟩) hbx').trans q2
        have q3:=(hbel.cell (p:=⟨b,_,none⟩) hbx').trans q3
        have q4:=(hbel.cell (p:=⟨b,_,none⟩) hbx').trans q4
        have q5:=(hbel.cell (p:=⟨b,_,none⟩) hbx').trans q5
        have Hp:=Lib.hid hp;have Hx:=Lib.hid hx;have Hbd:=Lib.hid hbd;have Hel:=Lib.hid hel
        obtain ⟨ap,cp,rfl,_⟩:=hp
        obtain ⟨al,cl,rfl,_⟩:=hx
        obtain ⟨ab,cb,rfl,_⟩:=hbd
        obtain ⟨ae,ce,rfl,_⟩:=hel
        have hm:=stms_mem (List.getElem_mem hjl)
        have hnt:=stmsNodes_take ss j hjl
        have hbt:=stmsBulk_take ss j hjl
        have hnl:=stmsNodes_le ss (j+1)
        have hbl:=stmsBulk_le ss (j+1)
        obtain ⟨ha,sa,sfa⟩:=hL.wc.alloc (.cells #[.string (toBA ss[j].kind),.string (toBA ss[j].name),.slice ap ss[j].p.length cp,.slice al ss[j].l.length cl,.slice ab ss[j].body.length cb,.slice ae ss[j].els.length ce] 82)
        have hbox:BoxS (wr.alloc (.cells #[.string (toBA ss[j].kind),.string (toBA ss[j].name),.slice ap ss[j].p.length cp,.slice al ss[j].l.length cl,.slice ab ss[j].body.length cb,.slice ae ss[j].els.length ce] 82)) x wr.heap.size ss[j] ap cp al cl ab cb ae ce:=⟨heap_alloc_new wr _,sfa⟩
        have hnx:=hL.nx
        have hnn:=hnx.n
        have hlk:=look_any ha (show st1.n≤100000000 by omega)
        have hsa:=hL.stp.trans sa
        have hjn:1≤ss[j].nodes:=by rw [Stm.nodes_eq];omega
        have Hm:=Lib.hid hm;have Hnt:=Lib.hid hnt;have Hbt:=Lib.hid hbt;have Hbox:=Lib.hid hbox;have Hsa:=Lib.hid hsa;have Hnx:=Lib.hid hnx;have Hnl:=Lib.hid hnl;have Hbl:=Lib.hid hbl;have Hnm:=Lib.hid hnamed;have Hjn:=Lib.hid hjn
        clear hrow ha sa sfa hbox hL hnx hsa hm hnt hbt hnl hbl hnn hnamed
        cases hok:st1.look.ok with
        | false=>
          rw [hok] at hlk
          have Hlk:=Lib.hid hlk;have Hok:=Lib.hid hok
          clear hlk hok
          go_wp2_with fail
          refine Hlk.out.mono ?_
          rintro _ w2 ⟨rfl,h2,s2⟩
          have hst:=Hsa.out.trans s2
          clear Hlk q0 q1 q2 q3 q4 q5
          go_wp2_with fail
          go_roundw
          case rel=>exact ⟨j+1,st1.look,p1,v1,l1,by omega,by go_num,⟨Hnx.out.trans (Nx.look st1 0 0) (by have:=Hnt.out;have:=Hjn.out;omega) (by have:=Hbt.out;omega),h2,hst⟩,fun h=>(by rw [Hok.out] at h;cases h),RW.takeOff hjl HRW.out Hok.out⟩
          case measure=>simp [intOf];omega
        | true=>
          rw [hok] at hlk
          have Hlk:=Lib.hid hlk;have Hok:=Lib.hid hok
          clear hlk hok
          go_wp2_with fail
          refine Hlk.out.mono ?_
          rintro _ w2 ⟨rfl,h2,s2⟩
          have hst:=Hsa.out.trans s2
          have hb2:=Hbox.out.step s2
          have k0:=hb2.c0
          have k1:=hb2.c1
          have k2:=hb2.c2
          have k3:=hb2.c3
          have k4:=hb2.c4
          have k5:=hb2.c5
          have hbel2:=WStp.below HH.out hst
          have hcall:=Hs.out ss[j] deep w2 x st1.look p1 v1 l1 _ _ _ _ (by have:=Hm.out;omega) (show StmIn ss[j] deep w2 x st1.look p1 v1 l1 (.slice ap ss[j].p.length cp) (.slice al ss[j].l.length cl) (.slice ab ss[j].body.length cb) (.slice ae ss[j].els.length ce) from ⟨stmsFit_mem Hft.out (List.getElem_mem hjl),by have:=Hm.out;omega,by have:=Hm.out;omega,by have:=Hm.out;omega,by
           show st1.n+1+_≤_
           have:=Hnx.out.n;have:=Hnt.out;have:=Hnl.out;omega,by
           show st1.inn+_≤_
           have:=Hnx.out.inn;have:=Hm.out;omega,by
           show st1.len+_≤_
           have:=Hnx.out.len;have:=Hbt.out;have:=Hbl.out;omega,h2,Hg.out.below hbel2,Hp.out.below hbel2,Hx.out.below hbel2,Hbd.out.below hbel2,Hel.out.below hbel2⟩)
          have Hcall:=Lib.hid hcall;have Hst:=Lib.hid hst
          clear Hlk q0 q1 q2 q3 q4 q5 hcall hst hb2 h2 s2
          go_wp2_with fail
          refine Hcall.out.mono ?_
          rintro _ w3 ⟨st3,p3,v3,l3,rfl,hn3,hq3,h3,s3⟩
          have hst3:=Hst.out.trans s3
          clear Hcall k0 k1 k2 k3 k4 k5
          go_wp2_with fail
          go_roundw
          case rel=>exact ⟨j+1,st3,p3,v3,l3,by omega,by go_num,⟨(Hnx.out.trans (Nx.look st1 0 0) (Nat.le_refl _) (Nat.le_refl _)).trans hn3 (by have:=Hnt.out;have:=Hjn.out;omega) (by have:=Hbt.out;omega),h3,hst3⟩,fun h=>stmsNamed_take ss j hjl (Hnm.out ((Nx.look st1 0 0).ok (hn3.ok h))) (hq3.1 h),RW.takeOn hjl HRW.out Hok.out hq3.2⟩
          case measure=>simp [intOf];omega
      · have t1:decide ((j:Int) < (ss.length:Int))=false:=by simp;omega
        obtain rfl:j=ss.length:=by omega
        have hrw2:=HRW.out
        rw [List.take_of_length_le (Nat.le_refl _)] at hL hnamed hrw2
        have e2:st1.inn=st.inn+1:=hL.nx.inn.trans N2.out
        have c2':wr.cell? ⟨x,2,none⟩=some (.int .i64 ((st.inn:Int)+1)):=by rw [hL.wc.c2,e2];rfl
        have f2':=hL.wc.f 2
        have x2':=hL.wc.lt
        have hfin:=hL.wc.setIn st.inn
        have hnx:Nx st { st1 with inn:=st.inn } (8 * stmsNodes ss) (20000000 * stmsBulk ss):=⟨rfl,by have:=hL.nx.len;show st1.len≤_;omega,by have:=hL.nx.n;show st1.n≤_;omega,fun h=>N4.out (hL.nx.ok h)⟩
        have Hfin:=Lib.hid hfin;have HNx:=Lib.hid hnx;have Hst:=Lib.hid hL.stp;have Hnm:=Lib.hid hnamed
        have h9:=BW.of (l:=ss) (deep:=deep) (st:=st) (c:=true) (b:=st1) (by rw [decide_eq_true h0,decide_eq_true hd12];rfl) (by rw [KI.out];exact hrw2)
        rw [e2] at h9
        have HBW:=Lib.hid h9
        clear hfin hnx hL hnamed e2 hbel hrw2 h9
        go_wp2_with fail
        go_end0
        exact ⟨_,p1,v1,l1,rfl,HNx.out,⟨Hnm.out,HBW.out⟩,Hfin.out.1,Hst.out.trans Hfin.out.2⟩
   · have b1:decide ((deep:Int)≤12)=false:=by rw [decide_eq_false_iff_not];omega
     have b2:decide (deep≤12)=false:=by rw [decide_eq_false_iff_not];exact hd12
     go_enter Tryz.func70,Tryz.ntmps70
     go_wp2_with fail
     refine (Hms.out false).mono ?_
     rintro _ w2 ⟨rfl,h2,s2⟩
     have c2:w2.cell? ⟨x,2,none⟩=some (.int .i64 (st.inn:Int)):=h2.c2
     have f2:=h2.f 2
     have x2:=h2.lt
     obtain ⟨hI,sI⟩:=h2.incIn
     change WrC (w2.setCell ⟨x,2,none⟩ (.int .i64 ((st.inn:Int)+1))) x _ p v l at hI
     change WStp x w2 (w2.setCell ⟨x,2,none⟩ (.int .i64 ((st.inn:Int)+1))) at sI
     have hI':=hI
     have eI:({ (st.must false) with inn:=st.inn+1 }:WS)= { (st.must false) with inn:=(st.must false).inn+1 }:=rfl
     rw [← eI] at hI'
     have hnI:({ (st.must false) with inn:=st.inn+1 }:WS).n=st.n∧({ (st.must false) with inn:=st.inn+1 }:WS).inn=st.inn+1∧({ (st.must false) with inn:=st.inn+1 }:WS).len=st.len∧(({ (st.must false) with inn:=st.inn+1 }:WS).ok=true→st.ok=true):=⟨rfl,rfl,rfl,fun h=>(must_ok h).1⟩
     generalize hstI:({ (st.must false) with inn:=st.inn+1 }:WS)=stI at hI' hnI
     have KI:=Lib.hid hstI
     clear hstI
     obtain ⟨n1,n2,n3,n4⟩:=hnI
     have m1:stI.n≤st.n:=by omega
     have m2:stI.inn≤st.inn+1:=by omega
     have m3:stI.len≤st.len:=by omega
     have N1:=Lib.hid n1;have N2:=Lib.hid n2;have N3:=Lib.hid n3;have N4:=Lib.hid n4;have HI:=Lib.hid hI';have SI:=Lib.hid (s2.trans sI)
     clear hI hI' sI eI n1 n2 n3 n4 h2 s2
     go_wp2_with fail
     go_loopw [26] (fun i wr=>∃ (j:Nat) (st1:WS) (p1 v1:Value) (l1:List UInt8),j≤ss.length∧i= .int .i64 j∧LoopW x w wr stI st1 (8 * stmsNodes (ss.take j)) (20000000 * stmsBulk (ss.take j)) p1 v1 l1∧(st1.ok=true→stmsNamed (ss.take j))∧RW (ss.take j) deep stI st1) (fun i _=>ss.length - (intOf i).toNat)
     case atStart=>exact ⟨0,stI,p,v,l,by omega,rfl,⟨Nx.refl _ _ _,HI.out,SI.out⟩,fun _=>(by simp [stmsNamed]),RW.nil _ _⟩
     case round=>
      obtain ⟨j,st1,p1,v1,l1,hj,rfl,hL,hnamed,hrw⟩:=hrel
      have HRW:=Lib.hid hrw
      clear hrw
      have hbel:=WStp.below HH.out hL.stp
      by_cases hjl:j < ss.length
      · have t1:decide ((j:Int) < (ss.length:Int))=true:=by simp;omega
        obtain ⟨b,o,rfl,hbx,hrow⟩:=Hr.out (by omega)
        obtain ⟨vp,vl,vb,ve,q0,q1,q2,q3,q4,q5,hp,hx,hbd,hel⟩:=(hrow.at_ _ _ _ j hjl).open_
        have hbx':b < x:=hbx
        have q0:=(hbel.cell (p:=⟨b,_,none⟩) hbx').trans q0
        have q1:=(hbel.cell (p:=⟨b,_,none⟩) hbx').trans q1
        have q2:=(hbel.cell (p:=⟨b,_,none⟩) hbx').trans q2
        have q3:=(hbel.cell (p:=⟨b,_,none⟩) hbx').trans q3
        have q4:=(hbel.cell (p:=⟨b,_,none⟩) hbx').trans q4
        have q5:=(hbel.cell (p:=⟨b,_,none⟩) hbx').trans q5
        have Hp:=Lib.hid hp;have Hx:=Lib.hid hx;have Hbd:=Lib.hid hbd;have Hel:=Lib.hid hel
        obtain ⟨ap,cp,rfl,_⟩:=hp
        obtain ⟨al,cl,rfl,_⟩:=hx
        obtain ⟨ab,cb,rfl,_⟩:=hbd
        obtain ⟨ae,ce,rfl,_⟩:=hel
        have hm:=stms_mem (List.getElem_mem hjl)
        have hnt:=stmsNodes_take ss j hjl
        have hbt:=stmsBulk_take ss j hjl
        have hnl:=stmsNodes_le ss (j+1)
        have hbl:=stmsBulk_le ss (j+1)
        obtain ⟨ha,sa,sfa⟩:=hL.wc.alloc (.cells #[.string (toBA ss[j].kind),.string (toBA ss[j].name),.slice ap ss[j].p.length cp,.slice al ss[j].l.length cl,.slice ab ss[j].body.length cb,.slice ae ss[j].els.length ce] 82)
        have hbox:BoxS (wr.alloc (.cells #[.string (toBA ss[j].kind),.string (toBA ss[j].name),.slice ap ss[j].p.length cp,.slice al ss[j].l.length cl,.slice ab ss[j].body.length cb,.slice ae ss[j].els.length ce] 82)) x wr.heap.size ss[j] ap cp al cl ab cb ae ce:=⟨heap_alloc_new wr _,sfa⟩
        have hnx:=hL.nx
        have hnn:=hnx.n
        have hlk:=look_any ha (show st1.n≤100000000 by omega)
        have hsa:=hL.stp.trans sa
        have hjn:1≤ss[j].nodes:=by rw [Stm.nodes_eq];omega
        have Hm:=Lib.hid hm;have Hnt:=Lib.hid hnt;have Hbt:=Lib.hid hbt;have Hbox:=Lib.hid hbox;have Hsa:=Lib.hid hsa;have Hnx:=Lib.hid hnx;have Hnl:=Lib.hid hnl;have Hbl:=Lib.hid hbl;have Hnm:=Lib.hid hnamed;have Hjn:=Lib.hid hjn
        clear hrow ha sa sfa hbox hL hnx hsa hm hnt hbt hnl hbl hnn hnamed
        cases hok:st1.look.ok with
        | false=>
          rw [hok] at hlk
          have Hlk:=Lib.hid hlk;have Hok:=Lib.hid hok
          clear hlk hok
          go_wp2_with fail
          refine Hlk.out.mono ?_
          rintro _ w2 ⟨rfl,h2,s2⟩
          have hst:=Hsa.out.trans s2
          clear Hlk q0 q1 q2 q3 q4 q5
          go_wp2_with fail
          go_roundw
          case rel=>exact ⟨j+1,st1.look,p1,v1,l1,by omega,by go_num,⟨Hnx.out.trans (Nx.look st1 0 0) (by have:=Hnt.out;have:=Hjn.out;omega) (by have:=Hbt.out;omega),h2,hst⟩,fun h=>(by rw [Hok.out] at h;cases h),RW.takeOff hjl HRW.out Hok.out⟩
          case measure=>simp [intOf];omega
        | true=>
          rw [hok] at hlk
          have Hlk:=Lib.hid hlk;have Hok:=Lib.hid hok
          clear hlk hok
          go_wp2_with fail
          refine Hlk.out.mono ?_
          rintro _ w2 ⟨rfl,h2,s2⟩
          have hst:=Hsa.out.trans s2
          have hb2:=Hbox.out.step s2
          have k0:=hb2.c0
          have k1:=hb2.c1
          have k2:=hb2.c2
          have k3:=hb2.c3
          have k4:=hb2.c4
          have k5:=hb2.c5
          have hbel2:=WStp.below HH.out hst
          have hcall:=Hs.out ss[j] deep w2 x st1.look p1 v1 l1 _ _ _ _ (by have:=Hm.out;omega) (show StmIn ss[j] deep w2 x st1.look p1 v1 l1 (.slice ap ss[j].p.length cp) (.slice al ss[j].l.length cl) (.slice ab ss[j].body.length cb) (.slice ae ss[j].els.length ce) from ⟨stmsFit_mem Hft.out (List.getElem_mem hjl),by have:=Hm.out;omega,by have:=Hm.out;omega,by have:=Hm.out;omega,by
           show st1.n+1+_≤_
           have:=Hnx.out.n;have:=Hnt.out;have:=Hnl.out;omega,by
           show st1.inn+_≤_
           have:=Hnx.out.inn;have:=Hm.out;omega,by
           show st1.len+_≤_
           have:=Hnx.out.len;have:=Hbt.out;have:=Hbl.out;omega,h2,Hg.out.below hbel2,Hp.out.below hbel2,Hx.out.below hbel2,Hbd.out.below hbel2,Hel.out.below hbel2⟩)
          have Hcall:=Lib.hid hcall;have Hst:=Lib.hid hst
          clear Hlk q0 q1 q2 q3 q4 q5 hcall hst hb2 h2 s2
          go_wp2_with fail
          refine Hcall.out.mono ?_
          rintro _ w3 ⟨st3,p3,v3,l3,rfl,hn3,hq3,h3,s3⟩
          have hst3:=Hst.out.trans s3
          clear Hcall k0 k1 k2 k3 k4 k5
          go_wp2_with fail
          go_roundw
          case rel=>exact ⟨j+1,st3,p3,v3,l3,by omega,by go_num,⟨(Hnx.out.trans (Nx.look st1 0 0) (Nat.le_refl _) (Nat.le_refl _)).trans hn3 (by have:=Hnt.out;have:=Hjn.out;omega) (by have:=Hbt.out;omega),h3,hst3⟩,fun h=>stmsNamed_take ss j hjl (Hnm.out ((Nx.look st1 0 0).ok (hn3.ok h))) (hq3.1 h),RW.takeOn hjl HRW.out Hok.out hq3.2⟩
          case measure=>simp [intOf];omega
      · have t1:decide ((j:Int) < (ss.length:Int))=false:=by simp;omega
        obtain rfl:j=ss.length:=by omega
        have hrw2:=HRW.out
        rw [List.take_of_length_le (Nat.le_refl _)] at hL hnamed hrw2
        have e2:st1.inn=st.inn+1:=hL.nx.inn.trans N2.out
        have c2':wr.cell? ⟨x,2,none⟩=some (.int .i64 ((st.inn:Int)+1)):=by rw [hL.wc.c2,e2];rfl
        have f2':=hL.wc.f 2
        have x2':=hL.wc.lt
        have hfin:=hL.wc.setIn st.inn
        have hnx:Nx st { st1 with inn:=st.inn } (8 * stmsNodes ss) (20000000 * stmsBulk ss):=⟨rfl,by have:=hL.nx.len;show st1.len≤_;omega,by have:=hL.nx.n;show st1.n≤_;omega,fun h=>N4.out (hL.nx.ok h)⟩
        have Hfin:=Lib.hid hfin;have HNx:=Lib.hid hnx;have Hst:=Lib.hid hL.stp;have Hnm:=Lib.hid hnamed
        have h9:=BW.of (l:=ss) (deep:=deep) (st:=st) (c:=false) (b:=st1) (by rw [decide_eq_true h0,decide_eq_false hd12];rfl) (by rw [KI.out];exact hrw2)
        rw [e2] at h9
        have HBW:=Lib.hid h9
        clear hfin hnx hL hnamed e2 hbel hrw2 h9
        go_wp2_with fail
        go_end0
        exact ⟨_,p1,v1,l1,rfl,HNx.out,⟨Hnm.out,HBW.out⟩,Hfin.out.1,Hst.out.trans Hfin.out.2⟩
 · have a1:decide (0 < ss.length)=false:=by rw [decide_eq_false_iff_not];exact h0
   have a2:decide ((0:Int) < (ss.length:Int))=false:=by rw [decide_eq_false_iff_not];omega
   obtain rfl:ss= []:=List.eq_nil_of_length_eq_zero (by omega)
   go_enter Tryz.func70,Tryz.ntmps70
   go_wp2_with fail
   refine (Hms.out false).mono ?_
   rintro _ w2 ⟨rfl,h2,s2⟩
   have c2:w2.cell? ⟨x,2,none⟩=some (.int .i64 (st.inn:Int)):=h2.c2
   have f2:=h2.f 2
   have x2:=h2.lt
   obtain ⟨hI,sI⟩:=h2.incIn
   change WrC (w2.setCell ⟨x,2,none⟩ (.int .i64 ((st.inn:Int)+1))) x _ p v l at hI
   change WStp x w2 (w2.setCell ⟨x,2,none⟩ (.int .i64 ((st.inn:Int)+1))) at sI
   have hI':=hI
   have eI:({ (st.must false) with inn:=st.inn+1 }:WS)= { (st.must false) with inn:=(st.must false).inn+1 }:=rfl
   rw [← eI] at hI'
   have hnI:({ (st.must false) with inn:=st.inn+1 }:WS).n=st.n∧({ (st.must false) with inn:=st.inn+1 }:WS).inn=st.inn+1∧({ (st.must false) with inn:=st.inn+1 }:WS).len=st.len∧(({ (st.must false) with inn:=st.inn+1 }:WS).ok=true→st.ok=true):=⟨rfl,rfl,rfl,fun h=>(must_ok h).1⟩
   generalize hstI:({ (st.must false) with inn:=st.inn+1 }:WS)=stI at hI' hnI
   have KI:=Lib.hid hstI
   clear hstI
   obtain ⟨n1,n2,n3,n4⟩:=hnI
   have m1:stI.n≤st.n:=by omega
   have m2:stI.inn≤st.inn+1:=by omega
   have m3:stI.len≤st.len:=by omega
   have N1:=Lib.hid n1;have N2:=Lib.hid n2;have N3:=Lib.hid n3;have N4:=Lib.hid n4;have HI:=Lib.hid hI';have SI:=Lib.hid (s2.trans sI)
   clear hI hI' sI eI n1 n2 n3 n4 h2 s2
   go_wp2_with fail
   go_loopw [26] (fun i wr=>i= .int .i64 0∧WrC wr x stI p v l∧WStp x w wr) (fun _ _=>0)
   case atStart=>exact ⟨rfl,HI.out,SI.out⟩
   case round=>
    obtain ⟨rfl,hw,hs⟩:=hrel
    have c2':wr.cell? ⟨x,2,none⟩=some (.int .i64 ((st.inn:Int)+1)):=by rw [hw.c2,N2.out];rfl
    have f2':=hw.f 2
    have x2':=hw.lt
    have hfin:=hw.setIn st.inn
    have hnx:Nx st { stI with inn:=st.inn } (8 * stmsNodes []) (20000000 * stmsBulk []):=⟨rfl,by show stI.len≤_;omega,by show stI.n≤_;omega,fun h=>N4.out h⟩
    have Hfin:=Lib.hid hfin;have HNx:=Lib.hid hnx;have Hst:=Lib.hid hs
    clear hfin hnx hw hs
    go_wp2_with fail
    go_end0
    have h9:=BW.of (l:= []) (deep:=deep) (st:=st) (c:=false) (b:=stI) rfl (by rw [KI.out];exact RW.nil _ _)
    rw [N2.out] at h9
    exact ⟨_,p,v,l,rfl,HNx.out,⟨fun _=>trivial,h9⟩,Hfin.out.1,Hst.out.trans Hfin.out.2⟩
end Go.Proofs.YtdoaeapahgmfoaaGreatDoor

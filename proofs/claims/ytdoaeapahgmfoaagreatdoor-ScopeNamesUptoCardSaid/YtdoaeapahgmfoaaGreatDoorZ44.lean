/- tree.Text of statements: it hands back no error for named statements alone, else ErrShape. tree.Text: its outcome by a statement T that says when it fails; the text of nothing. scope.find: the walk. Scopes in memory, as they are handed back; the tables' making and sorting. -/
import Derived.BigQuiet
import Derived.Sort.OwnSorted
import Derived.Test.YtdoaeapahgmfoaaGreatDoorZ30
import Derived.Test.YtdoaeapahgmfoaaGreatDoorZ37
import Derived.Test.YtdoaeapahgmfoaaGreatDoorZ43
namespace Go.Proofs.YtdoaeapahgmfoaaGreatDoor
open Go.RowKit
theorem stmsNodes_bulk_of {k:Nat} (h:∀ s:Stm,s.nodes≤k→s.nodes≤s.bulk):∀ l:List Stm,stmsNodes l≤k→stmsNodes l≤stmsBulk l
 | [],_=>Nat.le_refl _
 | e :: r,hk=>by
   simp only [stmsNodes,stmsBulk] at hk ⊢
   have:=stmsNodes_bulk_of h r (by omega)
   have:=h e (by omega)
   omega
theorem Stm.nodes_bulk:∀ (k:Nat) (s:Stm),s.nodes≤k→s.nodes≤s.bulk
 | 0,s,h=>by have:=Stm.nodes_eq s;omega
 | k+1,s,h=>by
   have h1:=Stm.nodes_eq s
   have h2:=Stm.bulk_eq s
   have h3:=exsNodes_bulk s.l
   have h4:=stmsNodes_bulk_of (Stm.nodes_bulk k) s.body (by omega)
   have h5:=stmsNodes_bulk_of (Stm.nodes_bulk k) s.els (by omega)
   omega
theorem stmsNodes_bulk (l:List Stm):stmsNodes l≤stmsBulk l:=stmsNodes_bulk_of (Stm.nodes_bulk (stmsNodes l)) l (Nat.le_refl _)
def TreeText (w:World) (ss:List Stm) (e:Ending) (w':World):Prop:=
 ∃ (r:ByteArray) (err:Value),e= .returned (.tuple #[.string r,err])∧(err= .nilIface∧stmsNamed ss∧¬ NoText ss∨NoText ss∧w.cell? ⟨0,0,none⟩=some err∧∃ te pe,err= .iface te pe)∧Below w.heap.size w w'
set_option maxRecDepth 100000 in
set_option maxHeartbeats 20000000 in
theorem ttext_any {w:World} {ss:List Stm} {vs:Value} (hg:GlobT w.heap.size w) (hss:StmsAt w (Lo w.heap.size) vs ss) (hft:stmsFit ss) (hbk:stmsBulk ss≤1100000) (hwt:stmsW ss≤6000):
 Calls Tryz.prog 11 #[vs] w (TreeText w ss):=by
 have hnb:=stmsNodes_bulk ss
 obtain ⟨te,pe,hsh⟩:=hg.shape
 have hba:Below w.heap.size w (w.alloc (.cells #[.pointer none,.slice none 0 0,.int .i64 0,.int .i64 0,.bool true] 79)):=(Below.refl _ _).alloc (Nat.le_refl _) _
 have hw0:WrC (w.alloc (.cells #[.pointer none,.slice none 0 0,.int .i64 0,.int .i64 0,.bool true] 79)) w.heap.size ⟨0,true,0,0⟩ (.pointer none) (.slice none 0 0) []:=
  ⟨heap_alloc_new w _,.inl rfl,World.ownsRow_nil _ _ _ _,rfl,by simp [Value.ownBlock]⟩
 obtain ⟨stI,hstI⟩:∃ q:WS,q=⟨0,true,0,0⟩:=⟨_,rfl⟩
 have n1:stI.n=0:=by rw [hstI]
 have n2:stI.inn=0:=by rw [hstI]
 have n3:stI.len=0:=by rw [hstI]
 rw [← hstI] at hw0
 have KI:=Lib.hid hstI
 clear hstI
 obtain ⟨a,c,rfl,hr⟩:=hss.below hba
 have hgl:=hg.below hba
 have Hba:=Lib.hid hba;have HH:=Lib.hid hw0;have Hr:=Lib.hid hr;have Hft:=Lib.hid hft;have Hg:=Lib.hid hgl;have Hsh:=Lib.hid hsh
 have Hs:=Lib.hid ((stmts_all (stmsNodes ss)).1)
 have hsl:=stmsBulk_len ss
 have hglob:0 < w.heap.size:=by have:=hg.hB2;omega
 have hf:stmsNodes ss≤stmsNodes ss:=Nat.le_refl _
 clear hba hw0 hr hft hgl hss hg hsh
 go_enter Tryz.func11,Tryz.ntmps11
 go_wp2_with fail
 generalize w.alloc (.cells #[.pointer none,.slice none 0 0,.int .i64 0,.int .i64 0,.bool true] 79)=wA at Hba HH Hr Hg ⊢
 generalize hx:w.heap.size=x at Hba HH Hr Hg hglob ⊢
 go_loopw [11] (fun i wr=>∃ (j:Nat) (st1:WS) (p1 v1:Value) (l1:List UInt8),j≤ss.length∧i= .int .i64 j∧LoopW x wA wr stI st1 (8 * stmsNodes (ss.take j)) (20000000 * stmsBulk (ss.take j)) p1 v1 l1∧(st1.ok=true→stmsNamed (ss.take j))∧RW (ss.take j) 1 stI st1) (fun i _=>ss.length - (intOf i).toNat)
 case atStart=>exact ⟨0,_,_,_,_,by omega,rfl,⟨Nx.refl _ _ _,HH.out,WStp.refl _ _⟩,fun _=>(by simp [stmsNamed]),RW.nil _ _⟩
 case round=>
  obtain ⟨j,st1,p1,v1,l1,hj,rfl,hL,hnamed,hrw⟩:=hrel
  have HRW:=Lib.hid hrw
  clear hrw
  have hbel:=WStp.below HH.out hL.stp
  by_cases hjl:j < ss.length
  · have t1:decide ((j:Int) < (ss.length:Int))=true:=by simp;omega
    obtain ⟨b,o,rfl,hbx,hrow⟩:=Hr.out (by omega)
    obtain ⟨vp,vl,vb,ve,q0,q1,q2,q3,q4,q5,hp,hx,hbd,hel⟩:=(hrow.at_ _ _ _ j hjl).open_
    have hbx':b < x:=hbx
    have q0:=(hbel.cell (p:=⟨b,_,none⟩) hbx').trans q0
    have q1:=(hbel.cell (p:=⟨b,_,none⟩) hbx').trans q1
    have q2:=(hbel.cell (p:=⟨b,_,none⟩) hbx').trans q2
    have q3:=(hbel.cell (p:=⟨b,_,none⟩) hbx').trans q3
    have q4:=(hbel.cell (p:=⟨b,_,none⟩) hbx').trans q4
    have q5:=(hbel.cell (p:=⟨b,_,none⟩) hbx').trans q5
    have Hp:=Lib.hid hp;have Hx:=Lib.hid hx;have Hbd:=Lib.hid hbd;have Hel:=Lib.hid hel
    obtain ⟨ap,cp,rfl,_⟩:=hp
    obtain ⟨al,cl,rfl,_⟩:=hx
    obtain ⟨ab,cb,rfl,_⟩:=hbd
    obtain ⟨ae,ce,rfl,_⟩:=hel
    have hm:=stms_mem (List.getElem_mem hjl)
    have hnt:=stmsNodes_take ss j hjl
    have hbt:=stmsBulk_take ss j hjl
    have hnl:=stmsNodes_le ss (j+1)
    have hbl:=stmsBulk_le ss (j+1)
    obtain ⟨ha,sa,sfa⟩:=hL.wc.alloc (.cells #[.string (toBA ss[j].kind),.string (toBA ss[j].name),.slice ap ss[j].p.length cp,.slice al ss[j].l.length cl,.slice ab ss[j].body.length cb,.slice ae ss[j].els.length ce] 82)
    have hbox:BoxS (wr.alloc (.cells #[.string (toBA ss[j].kind),.string (toBA ss[j].name),.slice ap ss[j].p.length cp,.slice al ss[j].l.length cl,.slice ab ss[j].body.length cb,.slice ae ss[j].els.length ce] 82)) x wr.heap.size ss[j] ap cp al cl ab cb ae ce:=⟨heap_alloc_new wr _,sfa⟩
    have hnx:=hL.nx
    have hnn:=hnx.n
    have hlk:=look_any ha (show st1.n≤100000000 by omega)
    have hsa:=hL.stp.trans sa
    have hjn:1≤ss[j].nodes:=by rw [Stm.nodes_eq];omega
    have Hm:=Lib.hid hm;have Hnt:=Lib.hid hnt;have Hbt:=Lib.hid hbt;have Hbox:=Lib.hid hbox;have Hsa:=Lib.hid hsa;have Hnx:=Lib.hid hnx;have Hnl:=Lib.hid hnl;have Hbl:=Lib.hid hbl;have Hnm:=Lib.hid hnamed;have Hjn:=Lib.hid hjn
    clear hrow ha sa sfa hbox hL hnx hsa hm hnt hbt hnl hbl hnn hnamed
    cases hok:st1.look.ok with
    | false=>
      rw [hok] at hlk
      have Hlk:=Lib.hid hlk;have Hok:=Lib.hid hok
      clear hlk hok
      go_wp2_with fail
      refine Hlk.out.mono ?_
      rintro _ w2 ⟨rfl,h2,s2⟩
      have hst:=Hsa.out.trans s2
      clear Hlk q0 q1 q2 q3 q4 q5
      go_wp2_with fail
      go_roundw
      case rel=>exact ⟨j+1,st1.look,p1,v1,l1,by omega,by go_num,⟨Hnx.out.trans (Nx.look st1 0 0) (by have:=Hnt.out;have:=Hjn.out;omega) (by have:=Hbt.out;omega),h2,hst⟩,fun h=>(by rw [Hok.out] at h;cases h),RW.takeOff hjl HRW.out Hok.out⟩
      case measure=>simp [intOf];omega
    | true=>
      rw [hok] at hlk
      have Hlk:=Lib.hid hlk;have Hok:=Lib.hid hok
      clear hlk hok
      go_wp2_with fail
      refine Hlk.out.mono ?_
      rintro _ w2 ⟨rfl,h2,s2⟩
      have hst:=Hsa.out.trans s2
      have hb2:=Hbox.out.step s2
      have k0:=hb2.c0
      have k1:=hb2.c1
      have k2:=hb2.c2
      have k3:=hb2.c3
      have k4:=hb2.c4
      have k5:=hb2.c5
      have hbel2:=WStp.below HH.out hst
      have hcall:=Hs.out ss[j] 1 w2 x st1.look p1 v1 l1 _ _ _ _ (by have:=Hm.out;omega) (show StmIn ss[j] 1 w2 x st1.look p1 v1 l1 (.slice ap ss[j].p.length cp) (.slice al ss[j].l.length cl) (.slice ab ss[j].body.length cb) (.slice ae ss[j].els.length ce) from ⟨stmsFit_mem Hft.out (List.getElem_mem hjl),by have:=Hm.out;omega,by have:=Hm.out;omega,by have:=Hm.out;omega,by
       show st1.n+1+_≤_
       have:=Hnx.out.n;have:=Hnt.out;have:=Hnl.out;omega,by
       show st1.inn+_≤_
       have:=Hnx.out.inn;have:=Hm.out;omega,by
       show st1.len+_≤_
       have:=Hnx.out.len;have:=Hbt.out;have:=Hbl.out;omega,h2,Hg.out.below hbel2,Hp.out.below hbel2,Hx.out.below hbel2,Hbd.out.below hbel2,Hel.out.below hbel2⟩)
      have Hcall:=Lib.hid hcall;have Hst:=Lib.hid hst
      clear Hlk q0 q1 q2 q3 q4 q5 hcall hst hb2 h2 s2
      go_wp2_with fail
      refine Hcall.out.mono ?_
      rintro _ w3 ⟨st3,p3,v3,l3,rfl,hn3,hq3,h3,s3⟩
      have hst3:=Hst.out.trans s3
      clear Hcall k0 k1 k2 k3 k4 k5
      go_wp2_with fail
      go_roundw
      case rel=>exact ⟨j+1,st3,p3,v3,l3,by omega,by go_num,⟨(Hnx.out.trans (Nx.look st1 0 0) (Nat.le_refl _) (Nat.le_refl _)).trans hn3 (by have:=Hnt.out;have:=Hjn.out;omega) (by have:=Hbt.out;omega),h3,hst3⟩,fun h=>stmsNamed_take ss j hjl (Hnm.out ((Nx.look st1 0 0).ok (hn3.ok h))) (hq3.1 h),RW.takeOn hjl HRW.out Hok.out hq3.2⟩
      case measure=>simp [intOf];omega
  · have t1:decide ((j:Int) < (ss.length:Int))=false:=by simp;omega
    obtain rfl:j=ss.length:=by omega
    have hrt:=HRW.out
    rw [List.take_of_length_le (Nat.le_refl _)] at hL hnamed hrt
    rw [KI.out] at hrt
    have HRT:=Lib.hid hrt
    clear hrt
    have hcg:wr.cell? ⟨0,0,none⟩=some (.iface te pe):=(hbel.cell (p:=⟨0,0,none⟩) hglob).trans ((Hba.out.cell (p:=⟨0,0,none⟩) hglob).trans Hsh.out)
    have c4:=hL.wc.c4
    have hlen:=bldLen_any hL.wc
    have Hlen:=Lib.hid hlen;have HW:=Lib.hid hL.wc;have Hnm:=Lib.hid hnamed;have Hbel:=Lib.hid (Hba.out.trans hbel)
    clear hlen hL hnamed hbel
    cases hok:st1.ok with
    | false=>
      rw [hok] at c4
      skip
      go_upto_region 9 with fail
      go_quiet (fail)
      go_wp2_with fail
      refine bodyPost_ret (results_tmp2 rfl _ _ _) rfl ?_
      exact ⟨_,_,rfl,.inr ⟨(NoText.iff HRT.out).2 (fun h=>by rw [hok] at h;exact absurd h.1 (by decide)),Hsh.out,te,pe,rfl⟩,by rw [hx];exact m_drewN Hbel.out _⟩
    | true=>
      rw [hok] at c4
      go_wp2_with fail
      refine Hlen.out.mono ?_
      rintro _ w2 ⟨rfl,rfl⟩
      by_cases h6:st1.len≤6000
      · have g1:decide ((6000:Int) < (st1.len:Int))=false:=by rw [decide_eq_false_iff_not];omega
        have g2:decide (6000 < st1.len)=false:=by rw [decide_eq_false_iff_not];omega
        have Hstr:=Lib.hid (bldString_any HW.out h6)
        clear Hlen
        go_wp2_with fail
        refine Hstr.out.mono ?_
        rintro _ w3 ⟨r,rfl,hb3⟩
        have Hb3:=Lib.hid (Hbel.out.trans hb3)
        clear hb3 Hstr
        go_wp2_with fail
        refine bodyPost_ret (results_tmp2 rfl _ _ _) rfl ?_
        exact ⟨r,.nilIface,rfl,.inl ⟨rfl,Hnm.out hok,fun hn=>(NoText.iff HRT.out).1 hn ⟨hok,h6⟩⟩,by rw [hx];exact Hb3.out⟩
      · have g1:decide ((6000:Int) < (st1.len:Int))=true:=by rw [decide_eq_true_iff];omega
        have g2:decide (6000 < st1.len)=true:=by rw [decide_eq_true_iff];omega
        clear Hlen
        skip
        go_upto_region 9 with fail
        go_quiet (fail)
        go_wp2_with fail
        refine bodyPost_ret (results_tmp2 rfl _ _ _) rfl ?_
        exact ⟨_,_,rfl,.inr ⟨(NoText.iff HRT.out).2 (fun h=>h6 h.2),Hsh.out,te,pe,rfl⟩,by rw [hx];exact m_drewN Hbel.out _⟩
end Go.Proofs.YtdoaeapahgmfoaaGreatDoor
namespace Go.Proofs.YtdoaeapahgmfoaaGreatDoor
open Go.RowKit
def TreeTextT (T:Prop) (w:World) (ss:List Stm) (e:Ending) (w':World):Prop:=
 ∃ (r:ByteArray) (err:Value),e= .returned (.tuple #[.string r,err])∧(err= .nilIface∧stmsNamed ss∨T∧w.cell? ⟨0,0,none⟩=some err∧∃ te pe,err= .iface te pe)∧Below w.heap.size w w'
theorem ttext_no {w:World} {ss:List Stm} {vs:Value} (hg:GlobT w.heap.size w) (hss:StmsAt w (Lo w.heap.size) vs ss) (hft:stmsFit ss) (hbk:stmsBulk ss≤1100000) (hwt:stmsW ss≤6000):
 Calls Tryz.prog 11 #[vs] w (TreeTextT (NoText ss) w ss):=by
 refine (ttext_any hg hss hft hbk hwt).mono ?_
 rintro e w' ⟨r,err,h1,h2,h3⟩
 exact ⟨r,err,h1,h2.imp (fun h=>⟨h.1,h.2.1⟩) id,h3⟩
set_option maxRecDepth 100000 in
set_option maxHeartbeats 20000000 in
theorem ttext_nil (w:World):Calls Tryz.prog 11 #[.slice none 0 0] w (TreeTextT False w []):=by
 have hba:Below w.heap.size w (w.alloc (.cells #[.pointer none,.slice none 0 0,.int .i64 0,.int .i64 0,.bool true] 79)):=(Below.refl _ _).alloc (Nat.le_refl _) _
 have hw0:WrC (w.alloc (.cells #[.pointer none,.slice none 0 0,.int .i64 0,.int .i64 0,.bool true] 79)) w.heap.size ⟨0,true,0,0⟩ (.pointer none) (.slice none 0 0) []:=
  ⟨heap_alloc_new w _,.inl rfl,World.ownsRow_nil _ _ _ _,rfl,by simp [Value.ownBlock]⟩
 have c4:=hw0.c4
 have Hlen:=Lib.hid (bldLen_any hw0)
 have Hstr:=Lib.hid (bldString_any hw0 (by decide))
 have Hba:=Lib.hid hba
 clear hba hw0
 go_enter Tryz.func11,Tryz.ntmps11
 go_wp2_with fail
 generalize w.alloc (.cells #[.pointer none,.slice none 0 0,.int .i64 0,.int .i64 0,.bool true] 79)=wA at *
 go_loopw [11] (fun i wr=>i= .int .i64 0∧wr=wA) (fun _ _=>0)
 case atStart=>exact ⟨rfl,rfl⟩
 case round=>
  obtain ⟨rfl,rfl⟩:=hrel
  go_wp2_with fail
  refine Hlen.out.mono ?_
  rintro _ w2 ⟨rfl,rfl⟩
  go_wp2_with fail
  refine Hstr.out.mono ?_
  rintro _ w3 ⟨r,rfl,hb3⟩
  have Hb3:=Lib.hid (Hba.out.trans hb3)
  clear hb3 Hstr
  go_wp2_with fail
  refine bodyPost_ret (results_tmp2 rfl _ _ _) rfl ?_
  exact ⟨r,.nilIface,rfl,.inl ⟨rfl,trivial⟩,Hb3.out⟩
end Go.Proofs.YtdoaeapahgmfoaaGreatDoor
namespace Go.Proofs.YtdoaeapahgmfoaaGreatDoor
open Go.RowKit
def c0 (x:Nat):Clr:=fun b=>if b=x then some .fin else none
theorem FdC.init (w:World) (B:Nat) (hB:B≤w.heap.size):FdC (w.alloc (.cells #[.slice none 0 0,.int .i64 (-1),.slice none 0 0] 94)) w.heap.size (c0 w.heap.size) B ⟨[],-1,[]⟩ 0 (.slice none 0 0) (.slice none 0 0) [] (fun _=>nilVs):=by
 refine ⟨heap_alloc_new w _,by simp [c0],World.ownsRow_nil _ _ _ _,Nat.le_refl _,(fun b e=>by cases e),World.ownsRow_nil _ _ _ _,(fun b e=>by cases e),rfl,(fun i hi=>by simp at hi),(fun b r e=> ?_),fun b i e=> ?_⟩
 · unfold c0 at e
   split at e
   · rename_i h;subst h;exact ⟨hB,by simp⟩
   · cases e
 · unfold c0 at e
   split at e <;> cases e
theorem sm_init:Sm ⟨[],-1,[]⟩ 0:=⟨Nat.le_refl _,Nat.le_refl _,fun i k=>by
 match k with
 | 0=>exact Nat.le_refl _
 | 1=>exact Nat.le_refl _
 | 2=>exact Nat.le_refl _
 | _+3=>exact Nat.le_refl _,fun _=>Nat.le_refl _,by decide,by decide⟩
def FindPost (T:Prop) (w:World) (ss:List Stm) (e:Ending) (w':World):Prop:=Below w.heap.size w w'∧
 ((∃ te pe,e= .returned (.tuple #[.pointer none,.iface te pe])∧T∧w.cell? ⟨0,0,none⟩=some (.iface te pe))∨
  (∃ n at_ te pe,e= .returned (.tuple #[.pointer none,.iface 107 (.pointer (some ⟨n,0,none⟩))])∧stmsNamed ss∧(secondF ss).bad≠ []∧w'.cell? ⟨n,0,none⟩=some (.int .i64 at_)∧w'.cell? ⟨n,1,none⟩=some (.iface te pe)∧w.cell? ⟨3,0,none⟩=some (.iface te pe))∨
  ∃ (x:Nat) (c:Clr) (vl vb:Value) (ys:List Nat) (vss:Nat→Nat→Value),e= .returned (.tuple #[.pointer (some ⟨x,0,none⟩),.nilIface])∧stmsNamed ss∧(secondF ss).bad= []∧
    FdC w' x c w.heap.size (Ag.fd (firstF ss).fr (secondF ss)) (firstF ss).fr.length vl vb ys vss)
theorem stms_lo {w w':World} {B:Nat} {c:Clr} {v:Value} {l:List Stm} (hs:StmsAt w (Lo B) v l) (hb:∀ b,b < B→w'.heap[b]? =w.heap[b]? ∧b < w'.heap.size) (hc:∀ b r,c b=some r→B≤b):StmsAt w' (Un w' c) v l:=
 hs.mono (fun b _ h=>World.cell?_of_block (hb b h).1) fun b h=>⟨(hb b h).2,by
  rcases e:c b with _ | r
  · rfl
  · have:=hc b r e;have h2:b < B:=h;omega⟩
theorem sm_first (ss:List Stm):Sm (firstF ss) (1+8 * stmsBulk ss):=by
 have h:=sm_block (stmsNodes ss+1) ss 0 _ _ (sm_init.open_ (-1) [])
 exact h.mono (by simp)
set_option maxRecDepth 100000 in
set_option maxHeartbeats 20000000 in
theorem find_any {T:Prop} {w:World} {ss:List Stm} {vs:Value} (htx:Calls Tryz.prog 11 #[vs] w (TreeTextT T w ss)) (hen:∃ te pe,w.cell? ⟨3,0,none⟩=some (.iface te pe)) (hss:StmsAt w (Lo w.heap.size) vs ss) (hbk:stmsBulk ss≤1100000):
 Calls Tryz.prog 37 #[vs] w (FindPost T w ss):=by
 obtain ⟨te0,pe0,hen⟩:=hen
 obtain ⟨av,cv,rfl,hr⟩:=id hss
 have Htx:=Lib.hid htx;have Hss:=Lib.hid hss;have Hen:=Lib.hid hen
 have hgl:3 < w.heap.size:=World.block_lt_of_cell? w _ hen
 clear htx hss hr hen
 go_enter Tryz.func37,Tryz.ntmps37
 go_wp2_with fail
 refine Htx.out.mono ?_
 rintro _ w1 ⟨r,err,rfl,her,hb1⟩
 rcases her with ⟨rfl,hnm⟩ | ⟨hT,hsh,te,pe,rfl⟩
 · have hsz1:=hb1.size
   have hini:=FdC.init w1 w.heap.size hsz1
   have hgr1:Below w.heap.size w1 (w1.alloc (.cells #[.slice none 0 0,.int .i64 (-1),.slice none 0 0] 94)):=(Below.refl w.heap.size w1).alloc hsz1 _
   have hop:=open_any hini rfl ⟨#[]⟩ (-1) [] (.slice none 0 0) ⟨none,0,rfl,Nat.le_refl _,fun h=>by simp at h⟩ (by simp) sm_init (by omega) (by have:=hgr1.size;omega)
   have Hop:=Lib.hid hop;have Hnm:=Lib.hid hnm;have Hb1:=Lib.hid (hb1.trans hgr1);have Hini:=Lib.hid hini
   have hxl:=hini.x_lt
   clear hop hnm hini hb1 hgr1
   go_wp2_with fail
   generalize (w1.alloc (.cells #[.slice none 0 0,.int .i64 (-1),.slice none 0 0] 94))=W1 at *
   generalize w1.heap.size=x at *
   (with_reducible refine Hop.out.mono ?_)
   rintro _ w2 ⟨rfl,c2,vl2,vb2,ys2,vss2,hF2,s2⟩
   have hb2:∀ b,b < w.heap.size→w2.heap[b]? =w.heap[b]? ∧b < w2.heap.size:=fun b hb=>⟨((s2.keep b (by have:=Hb1.out.size;omega)).2 (by
    rcases e:c0 x b with _ | r
    · rfl
    · have:=(Hini.out.lo b r e).1;omega)).trans (Hb1.out.block b hb),by have:=Hb1.out.size;have:=s2.size;omega⟩
   have hst2:=stms_lo Hss.out hb2 (fun b r e=>(hF2.lo b r e).1)
   have hbk2:Calls Tryz.prog 73 #[.pointer (some ⟨x,0,none⟩),.int .i64 0,.slice av ss.length cv] w2 (FdPost w2 x w.heap.size c2 (firstF ss) (.tuple #[])):=
    fblock_all (stmsNodes ss+1) ss 0 w2 x w.heap.size _ _ c2 _ vl2 vb2 _ ys2 vss2 (Nat.lt_succ_self _) hF2 rfl (by rw [open_len'];exact Nat.succ_pos _) (sm_init.open_ (-1) []) (by simp;omega) (by have:=Hb1.out.size;have:=s2.size;omega) hst2
   have Hbk2:=Lib.hid hbk2;have HS2:=Lib.hid s2;have HF2:=Lib.hid hF2;have Hb2:=Lib.hid hb2
   clear hbk2 s2 hF2 hb2 hst2 Hop
   go_wp2_with fail
   (with_reducible refine Hbk2.out.mono ?_)
   rintro _ w3 ⟨rfl,c3,vl3,vb3,ys3,vss3,hF3,s3⟩
   have hsz3:=s3.size
   have hszW:=Hb1.out.size
   have hsz2:=HS2.out.size
   have x1:=cell_of_blk (o:=1) hF3.blk
   have fx1:=frozen_of_blk (o:=1) hF3.blk
   have hxl3:=hF3.x_lt
   have hb3:∀ b,b < w.heap.size→w3.heap[b]? =w.heap[b]? ∧b < w3.heap.size:=fun b hb=>⟨((s3.keep b (Hb2.out b hb).2).2 (by
    rcases e:c2 b with _ | r
    · rfl
    · have:=(HF2.out.lo b r e).1;omega)).trans (Hb2.out b hb).1,by have:=(Hb2.out b hb).2;omega⟩
   obtain ⟨hF4,s4⟩:=hF3.setStmt (-1)
   have hos3:=And.intro (s3.os.trans (HS2.out.os.trans Hb1.out.os)) (And.intro (s3.tape.trans (HS2.out.tape.trans Hb1.out.tape)) (s3.output.trans (HS2.out.output.trans Hb1.out.output)))
   have HF4:=Lib.hid hF4;have HS4:=Lib.hid s4;have Hb3:=Lib.hid hb3;have HF3:=Lib.hid hF3;have Hos3:=Lib.hid hos3
   clear hF4 s4 hb3 s3 Hbk2 hF3 hos3
   go_upto_region 8 with fail
   clear x1 fx1
   generalize (w3.setCell ⟨x,1,none⟩ (.int .i64 (-1)))=W4 at *
   have hgY:Below W4.heap.size W4 (W4.alloc (.cells #[.int .i64 0] 3)):=(Below.refl _ _).alloc (Nat.le_refl _) _
   have hsz4:=HS4.out.size
   have hb5:∀ b,b < w.heap.size→(W4.alloc (.cells #[.int .i64 0] 3)).heap[b]? =w.heap[b]? ∧b < W4.heap.size:=fun b hb=>⟨(hgY.block b (by have:=(Hb3.out b hb).2;omega)).trans (((HS4.out.keep b (Hb3.out b hb).2).2 (by
    rcases e:c3 b with _ | r
    · rfl
    · have:=(HF3.out.lo b r e).1;omega)).trans (Hb3.out b hb).1),by have:=(Hb3.out b hb).2;omega⟩
   obtain ⟨hF5,s5⟩:=HF4.out.grow hgY
   have hY:NxC (W4.alloc (.cells #[.int .i64 0] 3)) W4.heap.size 0:=heap_alloc_new W4 _
   have hcy:c3 W4.heap.size=none:=HF4.out.fresh (Nat.le_refl _)
   have hst5:StmsAt (W4.alloc (.cells #[.int .i64 0] 3)) (UnY (W4.alloc (.cells #[.int .i64 0] 3)) c3 W4.heap.size) (.slice av ss.length cv) ss:=Hss.out.mono (fun b _ h=>World.cell?_of_block (hb5 b h).1) fun b h=>⟨by have:=(hb5 b h).2;simp;omega,by
    rcases e:c3 b with _ | r
    · rfl
    · have:=(HF3.out.lo b r e).1;have h2:b < w.heap.size:=h;omega,by have:=(hb5 b h).2;omega⟩
   have hlen:=firstF_len ss Hnm.out
   have hsmf:=sm_first ss
   have hF5':FdC (W4.alloc (.cells #[.int .i64 0] 3)) x c3 w.heap.size (Ag.fd (firstF ss).fr ⟨-1,0,(firstF ss).bad⟩) (firstF ss).fr.length vl3 vb3 ys3 vss3:=hF5
   have hag:Calls Tryz.prog 74 #[.pointer (some ⟨x,0,none⟩),.int .i64 0,.slice av ss.length cv,.pointer (some ⟨W4.heap.size,0,none⟩)] (W4.alloc (.cells #[.int .i64 0] 3)) (fun e w'=>e= .returned (.tuple #[])∧AgAt (W4.alloc (.cells #[.int .i64 0] 3)) c3 x w.heap.size (firstF ss).fr vl3 ys3 vss3 W4.heap.size (secondF ss) w'):=
    again_all (stmsNodes ss+1) ss 0 _ x w.heap.size _ W4.heap.size c3 (firstF ss).fr ⟨-1,0,(firstF ss).bad⟩ vl3 vb3 _ ys3 vss3 (Nat.lt_succ_self _) hF5' hY hcy (by omega) (by show 0+stmsOpens ss < _;omega) (firstF_inv ss).arnd (show Sm (Ag.fd (firstF ss).fr ⟨-1,0,(firstF ss).bad⟩) (1+8 * stmsBulk ss) from ⟨hsmf.fr,hsmf.bad,hsmf.row,hsmf.loops,by show (-1:Int)≤ -1;decide,by show (-1:Int)≤_;omega⟩) (by omega) (by simp;omega) hst5
   have Hag:=Lib.hid hag;have Hb5:=Lib.hid hb5;have HF5:=Lib.hid hF5';have HS5:=Lib.hid s5;have Hcy:=Lib.hid hcy
   clear hag hb5 hF5 hF5' hst5 hY hsmf hlen hgY s5 hcy
   go_wp2_with fail
   (with_reducible refine Hag.out.mono ?_)
   rintro _ w6 ⟨rfl,c6,vb6,hF6,s6,hY6,hc6⟩
   have hB6:Below w.heap.size w w6:=⟨s6.os.trans (HS5.out.os.trans (HS4.out.os.trans Hos3.out.1)),s6.tape.trans (HS5.out.tape.trans (HS4.out.tape.trans Hos3.out.2.1)),s6.output.trans (HS5.out.output.trans (HS4.out.output.trans Hos3.out.2.2)),by have:=s6.size;have:=HS5.out.size;omega,fun b hb=>((s6.keep b (by have:=(Hb5.out b hb).2;have:=HS5.out.size;omega)).2 (by
    rcases e:c3 b with _ | r
    · rfl
    · have:=(HF3.out.lo b r e).1;omega) (by have:=(Hb5.out b hb).2;omega)).trans (Hb5.out b hb).1⟩
   have x2:=cell_of_blk (o:=2) hF6.blk
   have hbown:=hF6.bown
   have hcen:=(hB6.cell (p:=⟨3,0,none⟩) hgl).trans Hen.out
   obtain ⟨bl,hbl⟩:∃ bl,bl=(secondF ss).bad:=⟨_,rfl⟩
   have hbown2:w6.ownsRow w.heap.size 3 1 vb6 bl.length (intCs bl):=by rw [hbl];exact hbown
   have hx6:=hF6.x_lt
   have hblen:bl.length≤50000000:=by
    rw [hbl]
    have hsmf:=sm_first ss
    have h1:=(sm_again (stmsNodes ss+1) (firstF ss).fr ss 0 (1+8 * stmsBulk ss) ⟨-1,0,(firstF ss).bad⟩ ⟨hsmf.fr,hsmf.bad,hsmf.row,hsmf.loops,by show (-1:Int)≤ -1;decide,by show (-1:Int)≤_;omega⟩).bad
    have h2:(Ag.fd (firstF ss).fr (againF (stmsNodes ss+1) (firstF ss).fr ss 0 ⟨-1,0,(firstF ss).bad⟩)).bad=(secondF ss).bad:=rfl
    rw [h2] at h1
    omega
   have HF6:=Lib.hid hF6;have HB6:=Lib.hid hB6;have Hbl:=Lib.hid hbl
   clear hF6 hB6 s6 hY6 hc6 Hag hbown hbl
   by_cases hb0:bl= []
   · obtain ⟨ao,cp,rfl⟩:∃ ao cp,vb6= .slice ao 0 cp:=by
      rw [hb0] at hbown2
      rcases hbown2.2 with ⟨e,_⟩ | ⟨g,cap,cur,e,_⟩
      · exact ⟨none,0,e⟩
      · exact ⟨_,_,e⟩
     have Hb0:=Lib.hid (Hbl.out.symm.trans hb0)
     clear hbown2 hb0
     have x2:w6.cell? ⟨x,2,none⟩=some (.slice ao 0 cp):=x2
     go_wp2_with fail
     refine bodyPost_ret (results_tmp2 rfl _ _ _) rfl ?_
     exact ⟨HB6.out,.inr (.inr ⟨x,c6,vl3,_,ys3,vss3,rfl,Hnm.out,Hb0.out,HF6.out⟩)⟩
   · have hpos:0 < bl.length:=List.length_pos_iff.2 hb0
     obtain ⟨g,cap,rfl,_,hgl6,hcap,hc⟩:=m_row hbown2 hpos
     have t1:decide ((0:Int) < (bl.length:Int))=true:=by simp;omega
     have t2:decide (0 < bl.length)=true:=by simp;omega
     have x2:w6.cell? ⟨x,2,none⟩=some (.slice (some ⟨g,0,none⟩) bl.length cap):=x2
     have hmin:=Tryz.slices_Min_int g 0 bl.length cap bl w6.drew hpos (Nat.le_refl _) (by omega) (fun j hj=>by
      rw [Nat.zero_add]
      show w6.cell? _=_
      rw [hc j hj]
      unfold intCs
      rw [List.getElem?_map,List.getElem?_eq_getElem hj,List.getD_eq_getElem?_getD,List.getElem?_eq_getElem hj]
      rfl)
     obtain ⟨mn,hmn⟩:∃ mn,mn=Lib.minOf (bl.take bl.length):=⟨_,rfl⟩
     rw [← hmn] at hmin
     have Hmin:=Lib.hid hmin;have Hb0:=Lib.hid (show (secondF ss).bad≠ [] by rw [← Hbl.out];exact hb0)
     clear hmin hbown2 hc hmn hb0
     go_upto_region 10 with fail
     go_region_held3 (fun w'=>w'.cell? ⟨x,2,none⟩=some (.slice (some ⟨g,0,none⟩) bl.length cap)∧w'.cell? ⟨3,0,none⟩=some (.iface te0 pe0)) (go_keep)
      ((first | (go_at_call 75;(with_reducible refine Hmin.out.mono ?_);rintro _ w7 ⟨rfl,rfl⟩)))
     all_goals
      (go_wp2_with fail
       refine bodyPost_ret (results_tmp2 rfl _ _ _) rfl ?_
       exact ⟨HB6.out.drew.alloc HB6.out.size _,.inr (.inl ⟨w6.heap.size,mn,te0,pe0,rfl,Hnm.out,Hb0.out,cell_of_blk (o:=0) (heap_alloc_new w6.drew _),cell_of_blk (o:=1) (heap_alloc_new w6.drew _),Hen.out⟩)⟩)
 · have Hsh:=Lib.hid (And.intro hT hsh);have Hb1:=Lib.hid hb1
   clear hsh hb1 hT
   go_wp2_with fail
   refine bodyPost_ret (results_tmp2 rfl _ _ _) rfl ?_
   exact ⟨Hb1.out,.inl ⟨te,pe,rfl,Hsh.out.1,Hsh.out.2⟩⟩
end Go.Proofs.YtdoaeapahgmfoaaGreatDoor
namespace Go.Proofs.YtdoaeapahgmfoaaGreatDoor
open Go.RowKit
def ScAt (w:World) (G:Nat→Prop) (s:Sc) (b o:Nat):Prop:=∃ (nm:ByteArray) (vl vc vf:Value),w.cell? ⟨b,o,none⟩=some (.string nm)∧w.cell? ⟨b,o+1,none⟩=some (.int .i64 s.around)∧w.cell? ⟨b,o+2,none⟩=some (.int .i64 (s.params:Int))∧
 w.cell? ⟨b,o+3,none⟩=some vl∧w.cell? ⟨b,o+4,none⟩=some vc∧w.cell? ⟨b,o+5,none⟩=some vf∧StrsAt w G vl s.locals∧StrsAt w G vc s.cells∧StrsAt w G vf s.frees
def ScsAt (w:World) (G:Nat→Prop) (v:Value) (l:List Sc):Prop:=∃ a c,v= .slice a l.length c∧(0 < l.length→∃ b o,a=some ⟨b,o,none⟩∧G b∧∀ j (hj:j < l.length),ScAt w G l[j] b (o+j * 6))
theorem ScAt.mono {w w':World} {G G':Nat→Prop} {s:Sc} {b o:Nat} (hc:∀ b o,G b→w'.cell? ⟨b,o,none⟩=w.cell? ⟨b,o,none⟩) (hG:∀ b,G b→G' b) (hb:G b) (h:ScAt w G s b o):ScAt w' G' s b o:=by
 obtain ⟨nm,vl,vc,vf,h0,h1,h2,h3,h4,h5,h6,h7,h8⟩:=h
 exact ⟨nm,vl,vc,vf,(hc _ _ hb).trans h0,(hc _ _ hb).trans h1,(hc _ _ hb).trans h2,(hc _ _ hb).trans h3,(hc _ _ hb).trans h4,(hc _ _ hb).trans h5,h6.mono hc hG,h7.mono hc hG,h8.mono hc hG⟩
theorem ScsAt.mono {w w':World} {G G':Nat→Prop} {v:Value} {l:List Sc} (hc:∀ b o,G b→w'.cell? ⟨b,o,none⟩=w.cell? ⟨b,o,none⟩) (hG:∀ b,G b→G' b) (h:ScsAt w G v l):ScsAt w' G' v l:=by
 obtain ⟨a,c,hv,hr⟩:=h
 refine ⟨a,c,hv,fun hp=> ?_⟩
 obtain ⟨b,o,ha,hb,hz⟩:=hr hp
 exact ⟨b,o,ha,hG b hb,fun j hj=>(hz j hj).mono hc hG hb⟩
abbrev ScP:=ByteArray × Value × Value × Value
def scCells:List Sc→List ScP→List Value
 | s :: r,p :: q=> [.string p.1,.int .i64 s.around,.int .i64 (s.params:Int),p.2.1,p.2.2.1,p.2.2.2] ++ scCells r q
 | _,_=> []
theorem scCells_snoc:∀ (l:List Sc) (ps:List ScP) (e:Sc) (p:ScP),ps.length=l.length→scCells (l ++ [e]) (ps ++ [p])=scCells l ps ++ [.string p.1,.int .i64 e.around,.int .i64 (e.params:Int),p.2.1,p.2.2.1,p.2.2.2]
 | [],[],_,_,_=>rfl
 | a :: r,q :: t,e,p,h=>by
   have:=scCells_snoc r t e p (by simpa using h)
   simp only [List.cons_append,scCells,this,List.append_assoc]
theorem scCells_at:∀ (l:List Sc) (ps:List ScP) (h:ps.length=l.length) (j:Nat) (hj:j < l.length),(scCells l ps)[j * 6]? =some (.string (ps[j]'(by omega)).1)∧(scCells l ps)[j * 6+1]? =some (.int .i64 l[j].around)∧
 (scCells l ps)[j * 6+2]? =some (.int .i64 (l[j].params:Int))∧(scCells l ps)[j * 6+3]? =some (ps[j]'(by omega)).2.1∧(scCells l ps)[j * 6+4]? =some (ps[j]'(by omega)).2.2.1∧(scCells l ps)[j * 6+5]? =some (ps[j]'(by omega)).2.2.2
 | a :: r,q :: t,h,0,_=>⟨rfl,rfl,rfl,rfl,rfl,rfl⟩
 | a :: r,q :: t,h,j+1,hj=>by
   obtain ⟨h0,h1,h2,h3,h4,h5⟩:=scCells_at r t (by simpa using h) j (by simpa using hj)
   have e:∀ k,(scCells (a :: r) (q :: t))[(j+1) * 6+k]? =(scCells r t)[j * 6+k]? :=by
    intro k
    show ([.string q.1,.int .i64 a.around,.int .i64 (a.params:Int),q.2.1,q.2.2.1,q.2.2.2] ++ scCells r t)[(j+1) * 6+k]? =_
    rw [List.getElem?_append_right (by simp;omega)]
    congr 1
    simp;omega
   exact ⟨(e 0).trans h0,(e 1).trans h1,(e 2).trans h2,(e 3).trans h3,(e 4).trans h4,(e 5).trans h5⟩
structure ScSt (w:World) (B:Nat) (D:Nat→Prop) (vo:Value) (ss:List Sc) (ps:List ScP):Prop where
 len:ps.length=ss.length
 own:w.ownsRow B 38 6 vo ss.length (scCells ss ps)
 parts:∀ i (h:i < ss.length) (h2:i < ps.length),StrsAt w D ps[i].2.1 ss[i].locals∧StrsAt w D ps[i].2.2.1 ss[i].cells∧StrsAt w D ps[i].2.2.2 ss[i].frees
theorem ScSt.nil (w:World) (B:Nat) (D:Nat→Prop):ScSt w B D (.slice none 0 0) [] []:=⟨rfl,World.ownsRow_nil _ _ _ _,fun i h=>by simp at h⟩
theorem ScSt.put {w w1:World} {B g cap:Nat} {D D':Nat→Prop} {vo:Value} {ss:List Sc} {ps:List ScP} (h:ScSt w B D vo ss ps) (s:Sc) (p:ScP)
 (hown:w1.ownsRow B 38 6 (.slice (some ⟨g,0,none⟩) (ss.length+1) cap) (ss.length+1) (scCells ss ps ++ [.string p.1,.int .i64 s.around,.int .i64 (s.params:Int),p.2.1,p.2.2.1,p.2.2.2]))
 (hc:∀ b,D b→w1.heap[b]? =w.heap[b]?) (hD:∀ b,D b→D' b) (h1:StrsAt w1 D' p.2.1 s.locals) (h2:StrsAt w1 D' p.2.2.1 s.cells) (h3:StrsAt w1 D' p.2.2.2 s.frees):
 ScSt w1 B D' (.slice (some ⟨g,0,none⟩) (ss.length+1) cap) (ss ++ [s]) (ps ++ [p]):=by
 refine ⟨by simp [h.len],?_,fun i g1 g2=> ?_⟩
 · rw [scCells_snoc _ _ _ _ h.len,List.length_append]
   exact hown
 · rcases Nat.lt_or_ge i ss.length with h' | h'
   · rw [List.getElem_append_left h',List.getElem_append_left (by rw [h.len];exact h')]
     obtain ⟨a,b,c⟩:=h.parts i h' (by rw [h.len];exact h')
     have hcc:∀ b o,D b→w1.cell? ⟨b,o,none⟩=w.cell? ⟨b,o,none⟩:=fun b o hb=>World.cell?_of_block (hc b hb)
     exact ⟨a.mono hcc hD,b.mono hcc hD,c.mono hcc hD⟩
   · have:i=ss.length:=by simp at g1;omega
     subst this
     have e2:(ps ++ [p])[ss.length]'g2=p:=by
      rw [List.getElem_append_right (by rw [h.len];exact Nat.le_refl _)]
      simp [h.len]
     rw [List.getElem_append_right (Nat.le_refl _),e2]
     simp only [Nat.sub_self,List.getElem_cons_zero]
     exact ⟨h1,h2,h3⟩
theorem ScSt.fin {w:World} {B:Nat} {D:Nat→Prop} {vo:Value} {ss:List Sc} {ps:List ScP} (h:ScSt w B D vo ss ps) (hD:∀ b,D b→B≤b∧b < w.heap.size):ScsAt w (fun b=>B≤b∧b < w.heap.size) vo ss:=by
 have ho:=h.own
 rcases ho.2 with ⟨rfl,h0⟩ | ⟨g,cap,cur,hv,hB,hg,hn',hc,hsz,htake⟩
 · exact ⟨none,0,by rw [h0],fun hp=>by omega⟩
 refine ⟨some ⟨g,0,none⟩,cap,hv,fun _=>⟨g,0,rfl,⟨hB,lt_of_blk hg⟩,fun j hj=> ?_⟩⟩
 have hk:∀ k,k < ss.length * 6→w.cell? ⟨g,k,none⟩=(scCells ss ps)[k]? :=by
  intro k hk
  rw [cell_of_blk hg]
  have h1:(cur.toList.take (ss.length * 6))[k]? =(scCells ss ps)[k]? :=by rw [htake]
  rw [List.getElem?_take_of_lt hk] at h1
  rw [← h1,Array.getElem?_toList]
 obtain ⟨h0,h1,h2,h3,h4,h5⟩:=scCells_at ss ps h.len j hj
 obtain ⟨a,b,c⟩:=h.parts j hj (by rw [h.len];exact hj)
 rw [Nat.zero_add]
 exact ⟨_,_,_,_,(hk _ (by omega)).trans h0,(hk _ (by omega)).trans h1,(hk _ (by omega)).trans h2,(hk _ (by omega)).trans h3,(hk _ (by omega)).trans h4,(hk _ (by omega)).trans h5,a.mono (fun _ _ _=>rfl) hD,b.mono (fun _ _ _=>rfl) hD,c.mono (fun _ _ _=>rfl) hD⟩
def c2 (t1 t2:Nat):Cl2:=fun b=>if b=t1 then some (1,0) else if b=t2 then some (2,0) else none
theorem Tb2.init (w:World) (n:Nat):Tb2 ((w.alloc (.cells (madeCells #[.slice none 0 0] n) 36)).alloc (.cells (madeCells #[.slice none 0 0] n) 36)) w.heap.size w.heap.size (w.heap.size+1) (c2 w.heap.size (w.heap.size+1)) ⟨List.replicate n [],List.replicate n []⟩ nilVs nilVs:=by
 have r1:=World.rowIs_made w (.slice none 0 0) n 36
 have r2:=World.rowIs_made (w.alloc (.cells (madeCells #[.slice none 0 0] n) 36)) (.slice none 0 0) n 36
 have hs:(w.alloc (.cells (madeCells #[.slice none 0 0] n) 36)).heap.size=w.heap.size+1:=by simp
 rw [hs] at r2
 have hg:∀ j,(List.replicate n ([]:List (List UInt8))).getD j []= []:=fun j=>by
  rw [List.getD_eq_getElem?_getD,List.getElem?_replicate]
  split <;> rfl
 refine ⟨⟨by rw [List.length_replicate];exact r1.alloc _,by simp [c2],fun i _=> ?_,fun i _ b e=>by cases e⟩,⟨by rw [List.length_replicate];exact r2,?_,fun i _=> ?_,fun i _ b e=>by cases e⟩,fun b r e=> ?_⟩
 · rw [hg];exact World.ownsRow_nil _ _ _ _
 · unfold c2
   rw [if_neg (by omega),if_pos rfl]
 · rw [hg];exact World.ownsRow_nil _ _ _ _
 · unfold c2 at e
   split at e
   · rename_i h;subst h;exact ⟨Nat.le_refl _,by simp;omega⟩
   · split at e
     · rename_i h;subst h;exact ⟨Nat.le_succ _,by simp⟩
     · cases e
theorem Tb2.sort {w w':World} {B t1 t2:Nat} {c:Cl2} {C:CF} {v1 v2:Nat→Value} (h:Tb2 w B t1 t2 c C v1 v2) (i:Nat) (hi:i < C.frees.length) (f:List (List UInt8)→List (List UInt8)) (hg:w.grownBy w' (v2 i).ownBlock)
 (hown:w'.ownsRow B 9 1 (v2 i) (f (C.frees.getD i [])).length (strCs (f (C.frees.getD i [])))):
 Tb2 w' B t1 t2 c ⟨C.cells,C.frees.modify i f⟩ v1 v2:=by
 have hcr:=h.b.cr i hi
 have hk:∀ b r,c b=some r→r≠(2,i+1)→w'.heap[b]? =w.heap[b]? :=fun b r e n1=>hg.block b (h.lo b r e).2 fun e2=>by
  rw [hcr b e2.symm] at e
  exact n1 (Option.some.inj e).symm
 refine ⟨h.a.keep (fun _ _ e=>e) fun b j e=>hk b _ e (by simp),⟨?_,h.b.ct,fun j hj=> ?_,fun j hj b e=> ?_⟩,fun b r e=>⟨(h.lo b r e).1,Nat.lt_of_lt_of_le (h.lo b r e).2 hg.size⟩⟩
 · rw [List.length_modify]
   exact h.b.row.of_block (hk _ _ h.b.ct (by simp))
 · rw [List.length_modify] at hj
   rw [getD_mod _ _ _ _ hj]
   by_cases e:j=i
   · subst e
     rw [if_pos rfl]
     exact hown
   · rw [if_neg (Ne.symm e)]
     refine own_same (h.b.own j hj) fun b e2=>hk b _ (h.b.cr j hj b e2) ?_
     intro e3
     simp only [Prod.mk.injEq,Nat.add_right_cancel_iff,true_and] at e3
     exact e e3
 · rw [List.length_modify] at hj
   exact h.b.cr j hj b e
theorem Tb2.ystp {w w':World} {B t1 t2 y:Nat} {c:Cl2} {C:CF} {v1 v2:Nat→Value} (h:Tb2 w B t1 t2 c C v1 v2) (hy:c y=none) (s:YStp y w w'):Tb2 w' B t1 t2 c C v1 v2:=by
 have hk:∀ b r,c b=some r→w'.heap[b]? =w.heap[b]? :=fun b r e=>s.keep b (h.lo b r e).2 fun e2=>by rw [e2,hy] at e;cases e
 exact ⟨h.a.keep (fun _ _ e=>e) fun b j e=>hk b _ e,h.b.keep (fun _ _ e=>e) fun b j e=>hk b _ e,fun b r e=>⟨(h.lo b r e).1,Nat.lt_of_lt_of_le (h.lo b r e).2 s.size⟩⟩
theorem YStp.grown {w w':World} {row:Option Nat} {y:Nat} (hg:w.grownBy w' row) (hr:∀ b,row=some b→b=y∨w.heap.size≤b):YStp y w w':=
 ⟨hg.os,hg.tape,hg.output,hg.size,fun b hb hne=>hg.block b hb fun e=>by rcases hr b e.symm with h | h;exact hne h;omega⟩
theorem YStp.setc {w:World} {y o:Nat} (v:Value):YStp y w (w.setCell ⟨y,o,none⟩ v):=⟨rfl,rfl,rfl,by simp,fun b _ hne=>Below.heap_setCell _ _ _ _ hne⟩
end Go.Proofs.YtdoaeapahgmfoaaGreatDoor

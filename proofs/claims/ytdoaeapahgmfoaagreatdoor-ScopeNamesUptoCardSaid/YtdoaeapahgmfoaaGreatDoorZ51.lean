/- SameTexts of two lists that read the same; faultedAt of a Fault. The names that the scopes bind are no longer than the program is big. The renamed copy of statements: how much bigger it is than they are. -/
import Derived.Test.YtdoaeapahgmfoaaGreatDoorZ26
import Derived.Test.YtdoaeapahgmfoaaGreatDoorZ28
import Derived.Test.YtdoaeapahgmfoaaGreatDoorZ30
import Derived.Test.YtdoaeapahgmfoaaGreatDoorZ46
namespace Go.Proofs.YtdoaeapahgmfoaaGreatDoor
open Go.RowKit
set_option maxRecDepth 100000 in
set_option maxHeartbeats 20000000 in
theorem sameTexts_any {w:World} (zs:List (List UInt8)) (v1 v2:Value) (G1 G2:Nat→Prop) (h1:StrsAt w G1 v1 zs) (h2:StrsAt w G2 v2 zs) (hG1:∀ b,G1 b→b < w.heap.size) (hG2:∀ b,G2 b→b < w.heap.size) (hl:zs.length≤40000000):
 Calls Tryz.prog 15 #[v1,v2] w fun e w'=>e= .returned (.bool true)∧Below w.heap.size w w':=by
 obtain ⟨a,c,rfl,_,hr⟩:=h1
 obtain ⟨a2,c2,rfl,_,hr2⟩:=h2
 have Hr:=Lib.hid hr;have Hr2:=Lib.hid hr2
 clear hr hr2
 go_enter Tryz.func15,Tryz.ntmps15
 go_wp2_with fail
 go_loopw [5] (fun i wr=>∃ j:Nat,j≤zs.length∧i= .int .i64 j∧Below w.heap.size w wr) (fun i _=>zs.length - (intOf i).toNat)
 case atStart=>exact ⟨0,by omega,rfl,Below.refl _ _⟩
 case round=>
  obtain ⟨j,hj,rfl,hbr⟩:=hrel
  by_cases hjl:j < zs.length
  · have t1:decide ((j:Int) < (zs.length:Int))=true:=by simp;omega
    obtain ⟨b,o,rfl,hb1,hc⟩:=Hr.out (by omega)
    obtain ⟨b2,o2,rfl,hb2,hc2⟩:=Hr2.out (by omega)
    have q1:=(hbr.cell (p:=⟨b,o+j,none⟩) (hG1 b hb1)).trans (hc j hjl)
    have q2:=(hbr.cell (p:=⟨b2,o2+j,none⟩) (hG2 b2 hb2)).trans (hc2 j hjl)
    have u1:((toBA zs[j]).toList == (toBA zs[j]).toList)=true:=by simp
    have u2:((toBA zs[j]).toList != (toBA zs[j]).toList)=false:=by simp
    clear hc hc2
    go_upto_region 6 with fail
    go_quiet (fail)
    go_wp2_with fail
    go_roundw
    case rel=>exact ⟨j+1,by omega,by go_num,⟨hbr.os,hbr.tape,hbr.output,hbr.size,hbr.block⟩⟩
    case measure=>simp [intOf];omega
  · have t1:decide ((j:Int) < (zs.length:Int))=false:=by simp;omega
    go_wp2_with fail
    refine bodyPost_ret (results_tmp rfl _ _ _) rfl ?_
    exact ⟨rfl,hbr⟩
set_option maxRecDepth 100000 in
set_option maxHeartbeats 20000000 in
theorem faultedAt_any {p:Nat→Addr} {w:World} (h:Errs p w) (N:Nat) (at_:Int) (n:Nat) (hn:n < 7) (hN0:w.cell? ⟨N,0,none⟩=some (.int .i64 at_)) (hN1:w.cell? ⟨N,1,none⟩=some (.iface 281 (.pointer (some (p n))))):
 Calls Tryz.prog 14 #[.iface 107 (.pointer (some ⟨N,0,none⟩))] w fun e w'=>e= .returned (.int .i64 ((n:Int)+1))∧Below w.heap.size w w':=by
 go_enter Tryz.func14,Tryz.ntmps14
 go_wp2_with fail
 refine (code_fault h N at_ n hn hN0 hN1).mono ?_
 rintro _ w1 ⟨rfl,hb⟩
 go_wp2_with fail
 refine bodyPost_ret (results_tmp rfl _ _ _) rfl ?_
 exact ⟨rfl,hb⟩
end Go.Proofs.YtdoaeapahgmfoaaGreatDoor
namespace Go.Proofs.YtdoaeapahgmfoaaGreatDoor
open Go.RowKit
def Nml (K:Nat) (fr:List Fr):Prop:=∀ x ∈ fr,∀ n ∈ x.bound,n.length≤K
theorem strsBulk_mem2 {p:List (List UInt8)} {n:List UInt8} (h:n ∈ p):n.length≤strsBulk p:=by
 induction p with
 | nil=>cases h
 | cons a r ih=>
   have e:strsBulk (a :: r)=a.length+1+strsBulk r:=rfl
   rcases List.mem_cons.1 h with rfl | h
   · omega
   · have:=ih h;omega
theorem nml_modify {K:Nat} (f:Fr→Fr) (hf:∀ x:Fr,(∀ n ∈ x.bound,n.length≤K)→∀ n ∈ (f x).bound,n.length≤K):∀ (fr:List Fr) (i:Nat),Nml K fr→Nml K (fr.modify i f)
 | [],i,_=>by cases i <;> exact fun x hx=>by simp at hx
 | x :: r,0,h=>by
   rw [List.modify_zero_cons]
   intro y hy
   rcases List.mem_cons.1 hy with rfl | hy
   · exact hf x (h x List.mem_cons_self)
   · exact h y (List.mem_cons_of_mem _ hy)
 | x :: r,i+1,h=>by
   rw [List.modify_succ_cons]
   intro y hy
   rcases List.mem_cons.1 hy with rfl | hy
   · exact h y List.mem_cons_self
   · exact nml_modify f hf r i (fun z hz=>h z (List.mem_cons_of_mem _ hz)) y hy
theorem nml_set {K:Nat} {d:Fd} (i:Nat) (f:Fr→Fr) (hf:∀ x:Fr,(∀ n ∈ x.bound,n.length≤K)→∀ n ∈ (f x).bound,n.length≤K) (h:Nml K d.fr):Nml K (d.set i f).fr:=nml_modify f hf d.fr i h
theorem nml_open {K:Nat} {d:Fd} (a:Int) (ps:List (List UInt8)) (hp:∀ n ∈ ps,n.length≤K) (h:Nml K d.fr):Nml K (d.open_ a ps).fr:=by
 show Nml K ((openP d [] ps).fr ++ [_])
 rw [openP_fr]
 intro x hx
 rcases List.mem_append.1 hx with hx | hx
 · exact h x hx
 · rw [List.mem_singleton.1 hx];exact hp
theorem nml_bind {K:Nat} {d:Fd} (i:Nat) (n:List UInt8) (hn:n.length≤K) (h:Nml K d.fr):Nml K (d.bind i n).fr:=by
 unfold Fd.bind
 split
 · exact h
 · refine nml_set i _ (fun x hx m hm=> ?_) h
   rcases mem_addL.1 hm with h1 | h1
   · exact hx m h1
   · rw [h1];exact hn
theorem nml_fold {α :Type} {K:Nat} (f:Fd→ α →Fd):∀ (l:List α) (_:∀ e ∈ l,∀ d:Fd,Nml K d.fr→Nml K (f d e).fr) (d:Fd),Nml K d.fr→Nml K (l.foldl f d).fr
 | [],_,_,h=>h
 | e :: r,hf,d,h=>nml_fold f r (fun a ha=>hf a (List.mem_cons_of_mem _ ha)) (f d e) (hf e List.mem_cons_self d h)
theorem nml_term {K:Nat}:∀ (f:Nat) (e:Ex) (i:Nat) (d:Fd),e.bulk≤K→Nml K d.fr→Nml K (termF f e i d).fr
 | 0,_,_,_,_,h=>h
 | f+1,e,i,d,hk,h=>by
   have hb:=Ex.bulk_eq e
   unfold termF
   dsimp only
   have h1:Nml K (if e.op=oName then d.set i (fun x=> { x with used:=addL x.used e.s }) else d).fr:=by
    split
    · exact nml_set i _ (fun x hx=>hx) h
    · exact h
   generalize (if e.op=oName then d.set i (fun x=> { x with used:=addL x.used e.s }) else d)=d1 at h1 ⊢
   split
   · refine nml_fold _ e.l (fun a ha d hd=>nml_term f a _ d ?_ hd) _ (nml_open _ _ (fun n hn=> ?_) h1)
     · have:=(exs_mem ha).1;omega
     · have:=strsBulk_mem2 hn;omega
   · refine nml_fold _ e.l (fun a ha d hd=>nml_term f a _ d ?_ hd) _ h1
     have:=(exs_mem ha).1;omega
theorem nml_fail {K:Nat} {d:Fd} (b:Bool) (h:Nml K d.fr):Nml K (d.failIf b).fr:=by rw [fail_fr];exact h
theorem nml_said {K:Nat} (i:Nat) (g:Bool) (ps:List (List UInt8)) {d:Fd} (h:Nml K d.fr):Nml K (saidF d i g ps).fr:=by
 unfold saidF
 refine nml_fold _ ps (fun n _ d hd=> ?_) d h
 dsimp only
 split
 · exact nml_set i _ (fun x hx=>hx) (nml_fail _ hd)
 · exact nml_set i _ (fun x hx=>hx) (nml_fail _ hd)
theorem nml_head {K:Nat} (s:Stm) (i:Nat) {d:Fd} (hk:s.bulk≤K) (h:Nml K d.fr):Nml K (headF s i d).fr:=by
 have hb:=Stm.bulk_eq s
 rw [headF_eq]
 have h0:Nml K ({ d with stmt:=d.stmt+1 }:Fd).fr:=h
 generalize ({ d with stmt:=d.stmt+1 }:Fd)=d1 at h0 ⊢
 have h1:Nml K (kindF1 s i d1).fr:=by
  unfold kindF1
  split
  · exact nml_fail _ h0
  · split
    · exact nml_fail _ h0
    · split
      · exact nml_said _ _ _ (nml_fail _ h0)
      · exact h0
 have h2:=nml_fold (fun a e=>termF e.nodes e i a) s.l (fun a ha d hd=>nml_term a.nodes a i d (by have:=(exs_mem ha).1;omega) hd) (kindF1 s i d1) h1
 generalize s.l.foldl (fun a e=>termF e.nodes e i a) (kindF1 s i d1)=d2 at h2 ⊢
 unfold kindF2
 split
 · exact nml_bind i s.name (by omega) h2
 · exact h2
theorem nml_block {K:Nat}:∀ (f:Nat) (l:List Stm) (i:Nat) (d:Fd),stmsBulk l≤K→Nml K d.fr→Nml K (blockF f l i d).fr
 | 0,_,_,_,_,h=>h
 | f+1,l,i,d,hk,h=>by
   rw [blockF_eq]
   refine nml_fold _ l (fun s hs d hd=> ?_) d h
   have hb:=Stm.bulk_eq s
   have hm:=(stms_mem hs).1
   have hh:=nml_head s i (d:=d) (by omega) hd
   generalize headF s i d=d1 at hh ⊢
   unfold kindF3
   split
   · exact nml_set i _ (fun x hx=>hx) (nml_block f s.body i _ (by omega) (nml_set i _ (fun x hx=>hx) hh))
   · split
     · exact nml_block f s.body _ _ (by omega) (nml_open _ _ (fun n hn=>by have:=strsBulk_mem2 hn;omega) hh)
     · have h2:=nml_block f s.body i d1 (by omega) hh
       refine nml_block f s.els i _ (by omega) ?_
       split
       · exact nml_bind i s.name (by omega) h2
       · exact h2
theorem nml_first (ss:List Stm):Nml (stmsBulk ss) (firstF ss).fr:=
 nml_block (stmsNodes ss+1) ss 0 _ (Nat.le_refl _) (nml_open _ _ (fun n hn=>by cases hn) fun x hx=>by cases hx)
theorem sc_names (ss:List Stm) (i:Nat):(∀ n ∈ (scF (firstF ss).fr (usesF (firstF ss).fr) i).locals,n.length≤stmsBulk ss)∧∀ n ∈ (scF (firstF ss).fr (usesF (firstF ss).fr) i).cells,n.length≤stmsBulk ss:=by
 have hb:∀ n ∈ ((firstF ss).fr.getD i dfr).bound,n.length≤stmsBulk ss:=by
  rw [List.getD_eq_getElem?_getD]
  rcases h:(firstF ss).fr[i]? with _ | x
  · intro n hn;cases hn
  · exact nml_first ss x (List.mem_of_getElem? h)
 unfold scF
 dsimp only
 refine ⟨fun n hn=> ?_,fun n hn=> ?_⟩
 · split at hn
   · cases hn
   · exact hb n (List.mem_filter.1 hn).1
 · split at hn
   · cases hn
   · exact hb n (List.mem_filter.1 hn).1
end Go.Proofs.YtdoaeapahgmfoaaGreatDoor
namespace Go.Proofs.YtdoaeapahgmfoaaGreatDoor
open Go.RowKit
theorem strsBulk_qn (p:List (List UInt8)):strsBulk (p.map qn)=strsBulk p+p.length:=by
 induction p with
 | nil=>rfl
 | cons a r ih=>
   have h:∀ l:List (List UInt8),strsBulk (a :: l)=a.length+1+strsBulk l:=fun l=>rfl
   have h2:strsBulk ((a :: r).map qn)=(qn a).length+1+strsBulk (r.map qn):=rfl
   have h3:(qn a).length=a.length+1:=by unfold qn;simp
   rw [h,h2,h3,ih,List.length_cons]
   omega
mutual
theorem Ex.ren_le:∀ e:Ex,e.ren.bulk≤e.bulk+e.w∧e.ren.w≤2 * e.w∧(e.fit→e.ren.fit)
 | .mk op n s p l=>by
   obtain ⟨h1,h2,h3⟩:=exsRen_le l
   have h4:=strsBulk_qn p
   have h5:(qn s).length=s.length+1:=by unfold qn;simp
   unfold Ex.ren Ex.bulk Ex.w Ex.fit
   rw [h4,List.length_map]
   refine ⟨?_,?_,fun h=>⟨h.1,h3 h.2⟩⟩
   · split
     · rw [h5];omega
     · omega
   · split
     · rw [h5];omega
     · omega
theorem exsRen_le:∀ l:List Ex,exsBulk (exsRen l)≤exsBulk l+exsW l∧exsW (exsRen l)≤2 * exsW l∧(exsFit l→exsFit (exsRen l))
 | []=>by simp [exsRen,exsBulk,exsW,exsFit]
 | e :: r=>by
   obtain ⟨h1,h2,h3⟩:=Ex.ren_le e
   obtain ⟨g1,g2,g3⟩:=exsRen_le r
   unfold exsRen exsBulk exsW exsFit
   exact ⟨by omega,by omega,fun h=>⟨h3 h.1,g3 h.2⟩⟩
end
mutual
theorem Stm.ren_le:∀ s:Stm,s.ren.bulk≤s.bulk+s.w∧s.ren.w≤2 * s.w∧(s.fit→s.ren.fit)
 | .mk k n p l b e=>by
   obtain ⟨h1,h2,h3⟩:=exsRen_le l
   obtain ⟨i1,i2,i3⟩:=stmsRen_le b
   obtain ⟨j1,j2,j3⟩:=stmsRen_le e
   have h4:=strsBulk_qn p
   have h5:(if n= [] then [] else qn n).length≤n.length+1:=by
    split
    · simp
    · unfold qn;simp
   unfold Stm.ren Stm.bulk Stm.w Stm.fit
   rw [h4,List.length_map]
   exact ⟨by omega,by omega,fun h=>⟨h3 h.1,i3 h.2.1,j3 h.2.2⟩⟩
theorem stmsRen_le:∀ l:List Stm,stmsBulk (stmsRen l)≤stmsBulk l+stmsW l∧stmsW (stmsRen l)≤2 * stmsW l∧(stmsFit l→stmsFit (stmsRen l))
 | []=>by simp [stmsRen,stmsBulk,stmsW,stmsFit]
 | s :: r=>by
   obtain ⟨h1,h2,h3⟩:=Stm.ren_le s
   obtain ⟨g1,g2,g3⟩:=stmsRen_le r
   unfold stmsRen stmsBulk stmsW stmsFit
   exact ⟨by omega,by omega,fun h=>⟨h3 h.1,g3 h.2⟩⟩
end
end Go.Proofs.YtdoaeapahgmfoaaGreatDoor

/- Statements that came in: what their reading gives. What the list of ScopeCloses' row gives: the words, the ops, the errors, the levels, the powers. The witness' world. errors.Is and errors.As of this program's errors: values of errors.New's make, and api.Fault around one. After the kit's worked examples over sentinels and over errors.As. -/
import Derived.Below
import Derived.DataShut
import Derived.Deep.Slices
import Derived.LaidEql
import Derived.Lib.LaidTab
import Derived.OpenShut
import Derived.ProofKit
import Derived.RowKitTokens
import Derived.Stop.Asserts
import Derived.Test.YtdoaeapahgmfoaaGreatDoorProg
import Derived.Test.YtdoaeapahgmfoaaGreatDoorRows
import Derived.Test.YtdoaeapahgmfoaaGreatDoorZ07
import Derived.Test.YtdoaeapahgmfoaaGreatDoorZ12
import Derived.Test.YtdoaeapahgmfoaaGreatDoorZ26
import Derived.WalkKit
namespace Go.Proofs.YtdoaeapahgmfoaaGreatDoor
open Go.ChangeShapes Go.WideShapes Go.ChangeAt Go.RowKit
theorem cells_rstr:Tryz.prog.cellsOf 9=1:=by kernel_rfl
theorem cells_rint:Tryz.prog.cellsOf 2=1:=by kernel_rfl
theorem cells_rstrs:Tryz.prog.cellsOf 36=1:=by kernel_rfl
theorem cells_rex:Tryz.prog.cellsOf 71=5:=by kernel_rfl
theorem cells_rexs:Tryz.prog.cellsOf 66=1:=by kernel_rfl
theorem cells_rst:Tryz.prog.cellsOf 68=6:=by kernel_rfl
theorem cells_rsts:Tryz.prog.cellsOf 22=1:=by kernel_rfl
theorem toBA_of2 (s:ByteArray):toBA s.data.toList=s:=by unfold toBA;simp
theorem list_of2 {α :Type} {n:Nat} {P:Nat→ α →Prop} (h:∀ i,i < n→∃ t,P i t):∃ ts:List α,ts.length=n∧∀ i (hi:i < ts.length),P i ts[i]:=by
 induction n with
 | zero=>exact ⟨[],rfl,fun i hi=>by simp at hi⟩
 | succ n ih=>
   obtain ⟨ts,hl,hp⟩:=ih fun i hi=>h i (by omega)
   obtain ⟨t,ht⟩:=h n (by omega)
   refine ⟨ts ++ [t],by simp [hl],fun i hi=> ?_⟩
   rcases Nat.lt_or_ge i ts.length with h1 | h1
   · rw [List.getElem_append_left h1];exact hp i h1
   · have:i=ts.length:=by simp at hi;omega
     subst this
     rw [List.getElem_append_right (Nat.le_refl _)]
     simpa [hl] using ht
theorem spot_none2 {W:World} {a:Addr} {v:Value} (h:W.cell? (a.add 0)=some v):∃ b o,a=⟨b,o,none⟩:=by
 rcases a with ⟨b,o,s⟩
 rcases s with _ | s
 · exact ⟨b,o,rfl⟩
 · exfalso
   unfold Addr.add at h
   rw [if_pos rfl] at h
   unfold World.cell? at h
   split at h
   · simp at h
   · cases h
theorem addr_add2 (b o j:Nat):(⟨b,o,none⟩:Addr).add j=⟨b,o+j,none⟩:=by
 unfold Addr.add
 split
 · rename_i h;subst h;rfl
 · rfl
section
variable {H:Type} {enc:TypeId × Value→H} {W:World}
theorem slice_read {hd:Bool} {t e:TypeId} {fuel:Nat} {cs:List Value} {x:DataW H × List MemPlace} (ht:Tryz.prog.underlying t=some (.slice e)) (h:DataW.trod enc Tryz.prog W 0 (fun _=>true) hd fuel t cs=some x):
 (cs= [.slice none 0 0]∧x.1= .nil)∨∃ (a:Addr) (len cap n:Nat) (elems rest:List (DataW H × List MemPlace)),fuel=n+1∧cs= [.slice (some a) len cap]∧len≤cap∧x.1= .slice (elems.map (·.1)) (rest.map (·.1))∧elems.length=len∧
   ∀ i (hi:i < elems.length),∃ cs',W.cells? 0 (a.add (i * Tryz.prog.cellsOf e)) (Tryz.prog.cellsOf e)=some cs'∧DataW.trod enc Tryz.prog W 0 (fun _=>true) hd n e cs'=some elems[i]:=by
 rcases DataW.trod_slice ht h with ⟨h1,h2⟩ | ⟨a,len,cap,elems,rest,n,hn,h1,hx,_,hl,_,hlen,hel,_⟩
 · exact .inl ⟨h1,by rw [h2]⟩
 · refine .inr ⟨a,len,cap,n,elems,rest,hn,h1,hl,by rw [hx],hlen,fun i hi=> ?_⟩
   have:=hel i (by omega)
   rw [List.getElem?_eq_getElem hi] at this
   obtain ⟨cs',h3,h4⟩:=Option.bind_eq_some_iff.1 this
   exact ⟨cs',h3,h4⟩
theorem bulkAll_map {α :Type} (f: α →DataW H) (g: α →Nat):∀ (l:List α) (_:∀ a ∈ l,g a≤Rows.uptoBulk (f a)),(l.map g).sum≤Rows.uptoBulkAll (l.map f)
 | [],_=>Nat.zero_le _
 | a :: r,h=>by
   have h1:=h a List.mem_cons_self
   have h2:=bulkAll_map f g r fun b hb=>h b (List.mem_cons_of_mem _ hb)
   simp only [List.map_cons,List.sum_cons,Rows.uptoBulkAll];omega
theorem bulkAll_zip {α :Type} (g: α →Nat):∀ (l:List α) (ds:List (DataW H)) (_:l.length=ds.length) (_:∀ i (h1:i < l.length) (h2:i < ds.length),g l[i]≤Rows.uptoBulk ds[i]),(l.map g).sum≤Rows.uptoBulkAll ds
 | [],[],_,_=>Nat.zero_le _
 | a :: r,d :: q,hl,h=>by
   have h1:=h 0 (by simp) (by simp)
   have h2:=bulkAll_zip g r q (by simpa using hl) fun i h3 h4=>h (i+1) (by simpa using h3) (by simpa using h4)
   simp only [List.getElem_cons_zero] at h1
   simp only [List.map_cons,List.sum_cons,Rows.uptoBulkAll];omega
set_option maxRecDepth 100000 in
theorem strs_read' {hd:Bool} {fuel:Nat} {v:Value} {x:DataW H × List MemPlace} (h:DataW.trod enc Tryz.prog W 0 (fun _=>true) hd fuel 36 [v]=some x):∃ zs,StrsAt W (Lo W.heap.size) v zs∧strsBulk zs+1≤Rows.uptoBulk x.1∧((x.1= .nil∧zs= [])∨∃ rest,x.1= .slice (zs.map fun z=> .lit (.string z)) rest):=by
 rcases slice_read Tryz.underlying36 h with ⟨h1,h2⟩ | ⟨a,len,cap,n,elems,rest,rfl,h1,hl,hx,hlen,hel⟩
 · obtain rfl:v= .slice none 0 0:=by simpa using h1
   exact ⟨[],⟨none,0,rfl,Nat.le_refl _,fun h=>by simp at h⟩,by rw [h2];simp [strsBulk,Rows.uptoBulk],.inl ⟨h2,rfl⟩⟩
 · obtain rfl:v= .slice (some a) len cap:=by simpa using h1
   have each:∀ i,i < elems.length→∃ z:List UInt8,W.cell? (a.add i)=some (.string (toBA z))∧∀ hi:i < elems.length,(elems[i]).1= .lit (.string z):=fun i hi=>by
    obtain ⟨cs',hc,ht⟩:=hel i hi
    rw [cells_rstr,Nat.mul_one] at hc
    obtain ⟨_,hcl,hcell⟩:=World.cells?_some hc
    obtain ⟨s,e1,e2,_⟩:=DataW.trod_string Tryz.underlying9 ht
    have k0:=hcell 0 (by omega)
    subst e1
    refine ⟨s.data.toList,?_,fun _=>by rw [e2]⟩
    rw [toBA_of2]
    have e3:(a.add i).add 0=a.add i:=by rw [Go.Deep.add_add,Nat.add_zero]
    rw [e3] at k0
    simpa using k0
   obtain ⟨zs,hzl,hzs⟩:=list_of2 each
   have hel2:elems.map (·.1)=zs.map fun z=> .lit (.string z):=by
    refine List.ext_getElem (by simp [hzl]) fun i h1 h2=> ?_
    rw [List.getElem_map,List.getElem_map]
    exact (hzs i (by simpa using h2)).2 (by simpa using h1)
   refine ⟨zs,⟨some a,cap,by rw [hzl,hlen],by omega,fun hp=> ?_⟩,?_,.inr ⟨_,by rw [hx,hel2]⟩⟩
   · obtain ⟨b,o,rfl⟩:=spot_none2 (hzs 0 hp).1
     refine ⟨b,o,rfl,?_,fun j hj=> ?_⟩
     · have:=(hzs 0 hp).1
       rw [addr_add2] at this
       exact World.block_lt_of_cell? W _ this
     · rw [← addr_add2];exact (hzs j hj).1
   · have h2:=bulkAll_map (H:=H) (fun z:List UInt8=> .lit (.string z)) (fun z:List UInt8=>z.length+1) zs fun z _=>by simp [Rows.uptoBulk]
     rw [hx,hel2]
     simp only [strsBulk,Rows.uptoBulk];omega
theorem strs_read {hd:Bool} {fuel:Nat} {v:Value} {x:DataW H × List MemPlace} (h:DataW.trod enc Tryz.prog W 0 (fun _=>true) hd fuel 36 [v]=some x):∃ zs,StrsAt W (Lo W.heap.size) v zs∧strsBulk zs+1≤Rows.uptoBulk x.1:=by
 obtain ⟨zs,h1,h2,_⟩:=strs_read' h
 exact ⟨zs,h1,h2⟩
def ExRd (W:World) (a:Addr) (d:DataW H):Prop:=∃ e:Ex,(∃ v,W.cell? (a.add 0)=some v)∧(∀ b o,a=⟨b,o,none⟩→ExAt W (Lo W.heap.size) e b o)∧e.fit∧e.bulk≤Rows.uptoBulk d
theorem exs_of {l:List Ex} (h:∀ e ∈ l,e.fit):exsFit l:=by
 induction l with
 | nil=>trivial
 | cons a r ih=>exact ⟨h a List.mem_cons_self,ih fun e he=>h e (List.mem_cons_of_mem _ he)⟩
theorem exsBulk_sum (l:List Ex):exsBulk l=(l.map Ex.bulk).sum:=by
 induction l with
 | nil=>rfl
 | cons a r ih=>simp only [exsBulk,List.map_cons,List.sum_cons,ih]
set_option maxRecDepth 100000 in
theorem exs_read {fuel:Nat} (ih:∀ m,m < fuel→∀ (cs:List Value) (x:DataW H × List MemPlace) (a:Addr),W.cells? 0 a 5=some cs→DataW.trod enc Tryz.prog W 0 (fun _=>true) true m 71 cs=some x→ExRd W a x.1)
 {v:Value} {x:DataW H × List MemPlace} (h:DataW.trod enc Tryz.prog W 0 (fun _=>true) true fuel 66 [v]=some x):∃ l,ExsAt W (Lo W.heap.size) v l∧exsFit l∧exsBulk l+1≤Rows.uptoBulk x.1:=by
 rcases slice_read Tryz.underlying66 h with ⟨h1,h2⟩ | ⟨a,len,cap,n,elems,rest,rfl,h1,hl,hx,hlen,hel⟩
 · obtain rfl:v= .slice none 0 0:=by simpa using h1
   exact ⟨[],⟨none,0,rfl,Nat.le_refl _,fun h=>by simp at h⟩,trivial,by rw [h2];simp [exsBulk,Rows.uptoBulk]⟩
 · obtain rfl:v= .slice (some a) len cap:=by simpa using h1
   have each:∀ i,i < elems.length→∃ e:Ex,((∃ v,W.cell? ((a.add (i * 5)).add 0)=some v)∧(∀ b o,a.add (i * 5)=⟨b,o,none⟩→ExAt W (Lo W.heap.size) e b o)∧e.fit)∧∀ hi:i < elems.length,e.bulk≤Rows.uptoBulk (elems[i]).1:=fun i hi=>by
    obtain ⟨cs',hc,ht⟩:=hel i hi
    rw [cells_rex] at hc
    obtain ⟨e,h1,h2,h3,h4⟩:=ih n (Nat.lt_succ_self n) cs' _ _ hc ht
    exact ⟨e,⟨h1,h2,h3⟩,fun _=>h4⟩
   obtain ⟨l,hzl,hzs⟩:=list_of2 each
   refine ⟨l,⟨some a,cap,by rw [hzl,hlen],by omega,fun hp=> ?_⟩,exs_of fun e he=> ?_,?_⟩
   · obtain ⟨⟨v0,h0⟩,_,_⟩:=(hzs 0 hp).1
     rw [Nat.zero_mul] at h0
     have e0:(a.add 0).add 0=a.add 0:=by rw [Go.Deep.add_add]
     rw [e0] at h0
     obtain ⟨b,o,rfl⟩:=spot_none2 h0
     refine ⟨b,o,rfl,?_,ExRow.of _ _ _ fun j hj=>(hzs j hj).1.2.1 b (o+j * 5) (addr_add2 _ _ _)⟩
     rw [addr_add2] at h0
     exact World.block_lt_of_cell? W _ h0
   · obtain ⟨i,hi,rfl⟩:=List.getElem_of_mem he
     exact (hzs i hi).1.2.2
   · have h2:=bulkAll_zip (H:=H) Ex.bulk l (elems.map (·.1)) (by simp [hzl]) fun i h3 h4=>by
      rw [List.getElem_map]
      exact (hzs i h3).2 (by omega)
     rw [hx,exsBulk_sum]
     simp only [Rows.uptoBulk];omega
set_option maxRecDepth 100000 in
theorem ex_read:∀ (m:Nat) (cs:List Value) (x:DataW H × List MemPlace) (a:Addr),W.cells? 0 a 5=some cs→DataW.trod enc Tryz.prog W 0 (fun _=>true) true m 71 cs=some x→ExRd W a x.1:=by
 intro m
 induction m using Nat.strongRecOn with
 | ind m ih=>
   intro cs x a hc h
   obtain ⟨_,hl,hcell⟩:=World.cells?_some hc
   obtain ⟨xs,n,rfl,hx,_,hlen,hf⟩:=DataW.trod_struct Tryz.underlying71 h
   match cs,hl,xs,hlen with
   | [v0,v1,v2,v3,v4],_,[y0,y1,y2,y3,y4],_=>
     have h0:DataW.trod enc Tryz.prog W 0 (fun _=>true) true n 9 (List.take (Tryz.prog.cellsOf 9) (List.drop 0 [v0,v1,v2,v3,v4]))=some y0:=hf 0 _ rfl
     have h1:DataW.trod enc Tryz.prog W 0 (fun _=>true) true n 2 (List.take (Tryz.prog.cellsOf 2) (List.drop 1 [v0,v1,v2,v3,v4]))=some y1:=hf 1 _ rfl
     have h2:DataW.trod enc Tryz.prog W 0 (fun _=>true) true n 9 (List.take (Tryz.prog.cellsOf 9) (List.drop 2 [v0,v1,v2,v3,v4]))=some y2:=hf 2 _ rfl
     have h3:DataW.trod enc Tryz.prog W 0 (fun _=>true) true n 36 (List.take (Tryz.prog.cellsOf 36) (List.drop 3 [v0,v1,v2,v3,v4]))=some y3:=hf 3 _ rfl
     have h4:DataW.trod enc Tryz.prog W 0 (fun _=>true) true n 66 (List.take (Tryz.prog.cellsOf 66) (List.drop 4 [v0,v1,v2,v3,v4]))=some y4:=hf 4 _ rfl
     rw [cells_rstr] at h0 h2
     rw [cells_rint] at h1
     rw [cells_rstrs] at h3
     rw [cells_rexs] at h4
     obtain ⟨s0,e0,d0,_⟩:=DataW.trod_string Tryz.underlying9 h0
     obtain ⟨n1,e1,d1,w1⟩:=DataW.trod_int Tryz.underlying2 h1
     obtain ⟨s2,e2,d2,_⟩:=DataW.trod_string Tryz.underlying9 h2
     obtain ⟨zs,hzs,hzb⟩:=strs_read h3
     obtain ⟨l,hls,hlf,hlb⟩:=exs_read (fun m hm=>ih m (by omega)) h4
     have k0:=hcell 0 (by omega)
     have k1:=hcell 1 (by omega)
     have k2:=hcell 2 (by omega)
     have k3:=hcell 3 (by omega)
     have k4:=hcell 4 (by omega)
     simp at e0 e1 e2 k0 k1 k2 k3 k4
     subst e0 e1 e2
     refine ⟨.mk s0.data.toList n1 s2.data.toList zs l,⟨_,k0⟩,fun b o ha=> ?_,?_,?_⟩
     · subst ha
       rw [addr_add2] at k0 k1 k2 k3 k4
       rw [Nat.add_zero] at k0
       exact ExAt.of (by rw [k0];simp [Ex.op,toBA_of2]) k1 (by rw [k2];simp [Ex.s,toBA_of2]) k3 k4 hzs hls
     · rw [Ex.fit_eq]
       refine ⟨?_,hlf⟩
       have:=(Lit.wf_int_iff .i64 n1).1 w1
       exact this
     · rw [hx]
       simp only [Ex.bulk,List.map_cons,List.map_nil,Rows.uptoBulk,Rows.uptoBulkAll,d0,d1,d2]
       omega
def StRd (W:World) (a:Addr) (d:DataW H):Prop:=∃ s:Stm,(∃ v,W.cell? (a.add 0)=some v)∧(∀ b o,a=⟨b,o,none⟩→StmAt W (Lo W.heap.size) s b o)∧s.fit∧s.bulk≤Rows.uptoBulk d
theorem stms_of {l:List Stm} (h:∀ e ∈ l,e.fit):stmsFit l:=by
 induction l with
 | nil=>trivial
 | cons a r ih=>exact ⟨h a List.mem_cons_self,ih fun e he=>h e (List.mem_cons_of_mem _ he)⟩
theorem stmsBulk_sum (l:List Stm):stmsBulk l=(l.map Stm.bulk).sum:=by
 induction l with
 | nil=>rfl
 | cons a r ih=>simp only [stmsBulk,List.map_cons,List.sum_cons,ih]
set_option maxRecDepth 100000 in
theorem stms_read {fuel:Nat} (ih:∀ m,m < fuel→∀ (cs:List Value) (x:DataW H × List MemPlace) (a:Addr),W.cells? 0 a 6=some cs→DataW.trod enc Tryz.prog W 0 (fun _=>true) true m 68 cs=some x→StRd W a x.1)
 {v:Value} {x:DataW H × List MemPlace} (h:DataW.trod enc Tryz.prog W 0 (fun _=>true) true fuel 22 [v]=some x):∃ l,StmsAt W (Lo W.heap.size) v l∧stmsFit l∧stmsBulk l+1≤Rows.uptoBulk x.1:=by
 rcases slice_read Tryz.underlying22 h with ⟨h1,h2⟩ | ⟨a,len,cap,n,elems,rest,rfl,h1,hl,hx,hlen,hel⟩
 · obtain rfl:v= .slice none 0 0:=by simpa using h1
   exact ⟨[],⟨none,0,rfl,fun h=>by simp at h⟩,trivial,by rw [h2];simp [stmsBulk,Rows.uptoBulk]⟩
 · obtain rfl:v= .slice (some a) len cap:=by simpa using h1
   have each:∀ i,i < elems.length→∃ e:Stm,((∃ v,W.cell? ((a.add (i * 6)).add 0)=some v)∧(∀ b o,a.add (i * 6)=⟨b,o,none⟩→StmAt W (Lo W.heap.size) e b o)∧e.fit)∧∀ hi:i < elems.length,e.bulk≤Rows.uptoBulk (elems[i]).1:=fun i hi=>by
    obtain ⟨cs',hc,ht⟩:=hel i hi
    rw [cells_rst] at hc
    obtain ⟨e,h1,h2,h3,h4⟩:=ih n (Nat.lt_succ_self n) cs' _ _ hc ht
    exact ⟨e,⟨h1,h2,h3⟩,fun _=>h4⟩
   obtain ⟨l,hzl,hzs⟩:=list_of2 each
   refine ⟨l,⟨some a,cap,by rw [hzl,hlen],fun hp=> ?_⟩,stms_of fun e he=> ?_,?_⟩
   · obtain ⟨⟨v0,h0⟩,_,_⟩:=(hzs 0 hp).1
     rw [Nat.zero_mul] at h0
     have e0:(a.add 0).add 0=a.add 0:=by rw [Go.Deep.add_add]
     rw [e0] at h0
     obtain ⟨b,o,rfl⟩:=spot_none2 h0
     refine ⟨b,o,rfl,?_,StmRow.of _ _ _ fun j hj=>(hzs j hj).1.2.1 b (o+j * 6) (addr_add2 _ _ _)⟩
     rw [addr_add2] at h0
     exact World.block_lt_of_cell? W _ h0
   · obtain ⟨i,hi,rfl⟩:=List.getElem_of_mem he
     exact (hzs i hi).1.2.2
   · have h2:=bulkAll_zip (H:=H) Stm.bulk l (elems.map (·.1)) (by simp [hzl]) fun i h3 h4=>by
      rw [List.getElem_map]
      exact (hzs i h3).2 (by omega)
     rw [hx,stmsBulk_sum]
     simp only [Rows.uptoBulk];omega
set_option maxRecDepth 100000 in
theorem st_read:∀ (m:Nat) (cs:List Value) (x:DataW H × List MemPlace) (a:Addr),W.cells? 0 a 6=some cs→DataW.trod enc Tryz.prog W 0 (fun _=>true) true m 68 cs=some x→StRd W a x.1:=by
 intro m
 induction m using Nat.strongRecOn with
 | ind m ih=>
   intro cs x a hc h
   obtain ⟨_,hl,hcell⟩:=World.cells?_some hc
   obtain ⟨xs,n,rfl,hx,_,hlen,hf⟩:=DataW.trod_struct Tryz.underlying68 h
   match cs,hl,xs,hlen with
   | [v0,v1,v2,v3,v4,v5],_,[y0,y1,y2,y3,y4,y5],_=>
     have h0:DataW.trod enc Tryz.prog W 0 (fun _=>true) true n 9 (List.take (Tryz.prog.cellsOf 9) (List.drop 0 [v0,v1,v2,v3,v4,v5]))=some y0:=hf 0 _ rfl
     have h1:DataW.trod enc Tryz.prog W 0 (fun _=>true) true n 9 (List.take (Tryz.prog.cellsOf 9) (List.drop 1 [v0,v1,v2,v3,v4,v5]))=some y1:=hf 1 _ rfl
     have h2:DataW.trod enc Tryz.prog W 0 (fun _=>true) true n 36 (List.take (Tryz.prog.cellsOf 36) (List.drop 2 [v0,v1,v2,v3,v4,v5]))=some y2:=hf 2 _ rfl
     have h3:DataW.trod enc Tryz.prog W 0 (fun _=>true) true n 66 (List.take (Tryz.prog.cellsOf 66) (List.drop 3 [v0,v1,v2,v3,v4,v5]))=some y3:=hf 3 _ rfl
     have h4:DataW.trod enc Tryz.prog W 0 (fun _=>true) true n 22 (List.take (Tryz.prog.cellsOf 22) (List.drop 4 [v0,v1,v2,v3,v4,v5]))=some y4:=hf 4 _ rfl
     have h5:DataW.trod enc Tryz.prog W 0 (fun _=>true) true n 22 (List.take (Tryz.prog.cellsOf 22) (List.drop 5 [v0,v1,v2,v3,v4,v5]))=some y5:=hf 5 _ rfl
     rw [cells_rstr] at h0 h1
     rw [cells_rstrs] at h2
     rw [cells_rexs] at h3
     rw [cells_rsts] at h4 h5
     obtain ⟨s0,e0,d0,_⟩:=DataW.trod_string Tryz.underlying9 h0
     obtain ⟨s1,e1,d1,_⟩:=DataW.trod_string Tryz.underlying9 h1
     obtain ⟨zs,hzs,hzb⟩:=strs_read h2
     obtain ⟨l,hls,hlf,hlb⟩:=exs_read (fun m _=>ex_read m) h3
     obtain ⟨bd,hbs,hbf,hbb⟩:=stms_read (fun m hm=>ih m (by omega)) h4
     obtain ⟨el,hes,hef,heb⟩:=stms_read (fun m hm=>ih m (by omega)) h5
     have k0:=hcell 0 (by omega)
     have k1:=hcell 1 (by omega)
     have k2:=hcell 2 (by omega)
     have k3:=hcell 3 (by omega)
     have k4:=hcell 4 (by omega)
     have k5:=hcell 5 (by omega)
     simp at e0 e1 k0 k1 k2 k3 k4 k5
     subst e0 e1
     refine ⟨.mk s0.data.toList s1.data.toList zs l bd el,⟨_,k0⟩,fun b o ha=> ?_,?_,?_⟩
     · subst ha
       rw [addr_add2] at k0 k1 k2 k3 k4 k5
       rw [Nat.add_zero] at k0
       exact StmAt.of (by rw [k0];simp [Stm.kind,toBA_of2]) (by rw [k1];simp [Stm.name,toBA_of2]) k2 k3 k4 k5 hzs hls hbs hes
     · rw [Stm.fit_eq]
       exact ⟨hlf,hbf,hef⟩
     · rw [hx]
       simp only [Stm.bulk,List.map_cons,List.map_nil,Rows.uptoBulk,Rows.uptoBulkAll,d0,d1]
       omega
theorem arg_read {v:Value} {d:DataW H} {p:List MemPlace} (h:DataW.Trod enc Tryz.prog W 0 (fun _=>true) true 22 v d p) (hv:v.cells= #[v]):∃ l,StmsAt W (Lo W.heap.size) v l∧stmsFit l∧stmsBulk l+1≤Rows.uptoBulk d:=by
 obtain ⟨fuel,h⟩:=h
 rw [hv] at h
 exact stms_read (fun m _=>st_read m) h
end
end Go.Proofs.YtdoaeapahgmfoaaGreatDoor
namespace Go.Proofs.YtdoaeapahgmfoaaGreatDoor
open Go.ChangeShapes Go.WideShapes Go.ChangeAt Go.RowKit
theorem cells_strs1:Tryz.prog.cellsOf 36=1:=by kernel_rfl
theorem map_lit_inj {zs ys:List (List UInt8)} (h:(zs.map fun z=>(DataW.lit (.string z):DataW Unit))=ys.map fun z=> .lit (.string z)):zs=ys:=by
 induction zs generalizing ys with
 | nil=>cases ys with
   | nil=>rfl
   | cons b q=>simp at h
 | cons a r ih=>cases ys with
   | nil=>simp at h
   | cons b q=>
     simp only [List.map_cons,List.cons.injEq] at h
     obtain ⟨h1,h2⟩:=h
     injection h1 with h1
     injection h1 with h1
     rw [h1,ih h2]
theorem levels_laid:(Rows.laid_nurserypy_tree_levels:DataW Unit)= .agg (levelsL.map fun zs=>if zs= [] then .nil else .slice (zs.map fun z=> .lit (.string z)) []):=rfl
set_option maxRecDepth 100000 in
theorem laid_levels {W:World} {l:List (String × DataW Unit)} {ps:List MemPlace} (h:DataW.LaidVars Tryz.prog W l ps) (hm:("nurserypy/tree.levels",Rows.laid_nurserypy_tree_levels) ∈ l):
 ∀ i (hi:i < levelsL.length),∃ v,W.cell? ⟨10,i,none⟩=some v∧StrsAt W (Lo W.heap.size) v levelsL[i]:=by
 intro i hi
 obtain ⟨g',t,cs,fuel,p,h1,h2,h3,h4⟩:=laid_mem h _ _ hm
 obtain rfl:=Option.some.inj ((show Tryz.prog.globalNamed "nurserypy/tree.levels" =some 10 by kernel_rfl).symm.trans h1)
 obtain rfl:=Option.some.inj ((show (Tryz.prog.globals[10]?).map (·.type)=some 226 by kernel_rfl).symm.trans h2)
 obtain ⟨xs,m,_,hx,hcl,hxl,hel⟩:=DataW.trod_array Tryz.underlying226 h4
 have hi6:i < 6:=hi
 have hct:Tryz.prog.cellsOf 226=6:=by kernel_rfl
 rw [hct] at hcl
 have hc:=World.var?_cell (show Tryz.prog.globalNamed "nurserypy/tree.levels" =some 10 by kernel_rfl) h3 i
 have hil:i < cs.toList.length:=by omega
 have h5:=hel i hi6
 rw [cells_strs1,Nat.mul_one,List.getElem?_eq_getElem (by omega:i < xs.length)] at h5
 have e1:(cs.toList.drop i).take 1= [cs.toList[i]]:=by
  rw [List.drop_eq_getElem_cons hil];rfl
 rw [e1] at h5
 obtain ⟨zs,hz,_,hd⟩:=strs_read' h5
 refine ⟨cs.toList[i],?_,?_⟩
 · rw [hc,← Array.getElem?_toList,List.getElem?_eq_getElem hil]
 · have hxa:=(Prod.mk.inj hx).1
   rw [levels_laid] at hxa
   injection hxa with hxa
   have h6:(xs[i]'(by omega)).1=if levelsL[i]= [] then .nil else .slice (levelsL[i].map fun z=> .lit (.string z)) []:=by
    have h7:=congrArg (·[i]?) hxa
    simp only [List.getElem?_map,List.getElem?_eq_getElem hi,List.getElem?_eq_getElem (by omega:i < xs.length),Option.map_some] at h7
    exact (Option.some.inj h7).symm
   have e:zs=levelsL[i]:=by
    rcases hd with ⟨h7,h8⟩ | ⟨rest,h7⟩
    · rw [h7] at h6
      split at h6
      · rename_i h9;rw [h8,h9]
      · cases h6
    · rw [h7] at h6
      split at h6
      · cases h6
      · injection h6 with h6 _
        exact map_lit_inj h6
   exact e ▸ hz
theorem laid_pow {W:World} {l:List (String × DataW Unit)} {ps:List MemPlace} (h:DataW.LaidVars Tryz.prog W l ps) (hm:("internal/strconv.uint64pow10",Rows.laid_internal_strconv_uint64pow10) ∈ l):Lib.TabIs Tryz.prog W "internal/strconv.uint64pow10" .u64 Lib.pow10Tab:=by
 obtain ⟨g',t,cs,fuel,p,h1,h2,h3,h4⟩:=laid_mem h _ _ hm
 obtain rfl:=Option.some.inj (powNamed.symm.trans h1)
 obtain rfl:=Option.some.inj ((show (Tryz.prog.globals[12]?).map (·.type)=some 271 by kernel_rfl).symm.trans h2)
 have e:(Rows.laid_internal_strconv_uint64pow10:DataW Unit)=Lib.tabData .u64 Lib.pow10Tab:=rfl
 rw [e] at h4
 unfold Lib.TabIs
 rw [h3,← Lib.cells_of_tab Tryz.underlying271 Tryz.underlying197 (by kernel_rfl) (by kernel_rfl) h4]
end Go.Proofs.YtdoaeapahgmfoaaGreatDoor
namespace Go.Proofs.YtdoaeapahgmfoaaGreatDoor
open Go.RowKit Go.Extern.Stop Go.Stop Go.Extern
theorem Tryz.isTypeOf (v:Value) (w:World):(Extern.ReflectliteType.typeOf #[.iface 281 v]).run Tryz.prog w= .ok (.iface 233 (.agg #[.pointer (some ⟨19,281,none⟩)])) w:=by kernel_rfl
def cmpEntry:Array Value→Sem Value:=Extern.ReflectliteType.method fun t=>do Extern.Rtype.noPackHeld "Comparable" t;pure (.bool (← typeInfo t).comparable)
theorem Tryz.isComparable (w:World):(cmpEntry #[.agg #[.pointer (some ⟨19,281,none⟩)]]).run Tryz.prog w= .ok (.bool true) w:=by kernel_rfl
theorem Tryz.isMethodComparable (v:Value) (w:World):(Go.method 420 233 v "Comparable").run Tryz.prog w= .ok (237,v) w:=by kernel_rfl
theorem Tryz.isComp:(Tryz.prog.info? 281).map (·.comparable)=some true:=by kernel_rfl
theorem Tryz.isSize:(Tryz.prog.info? 283).map (·.size)=some 1:=by kernel_rfl
theorem Tryz.noIsE (v:Value) (xT:TypeId) (w:World):(Instr.typeAssert (.iface 281 v) xT 244 true).run Tryz.prog w= .ok (.tuple #[.nilIface,.bool false]) w:=run_typeAssert_lacksB Tryz.underlying244 (by kernel_rfl) (by kernel_rfl) v xT w
theorem Tryz.noUnwrapE (v:Value) (xT:TypeId) (w:World):(Instr.typeAssert (.iface 281 v) xT 240 true).run Tryz.prog w= .ok (.tuple #[.nilIface,.bool false]) w:=run_typeAssert_lacksB Tryz.underlying240 (by kernel_rfl) (by kernel_rfl) v xT w
theorem Tryz.noUnwrapsE (v:Value) (xT:TypeId) (w:World):(Instr.typeAssert (.iface 281 v) xT 242 true).run Tryz.prog w= .ok (.tuple #[.nilIface,.bool false]) w:=run_typeAssert_lacksB Tryz.underlying242 (by kernel_rfl) (by kernel_rfl) v xT w
theorem Tryz.noIsW (v:Value) (xT:TypeId) (w:World):(Instr.typeAssert (.iface 107 v) xT 244 true).run Tryz.prog w= .ok (.tuple #[.nilIface,.bool false]) w:=run_typeAssert_lacksB Tryz.underlying244 (by kernel_rfl) (by kernel_rfl) v xT w
theorem Tryz.hasUnwrapW (v:Value) (xT:TypeId) (w:World):(Instr.typeAssert (.iface 107 v) xT 240 true).run Tryz.prog w= .ok (.tuple #[.iface 107 v,.bool true]) w:=run_typeAssert_hasB Tryz.underlying240 (by kernel_rfl) v xT w
theorem Tryz.methodUnwrap (v:Value) (w:World):(Go.method 420 107 v "Unwrap").run Tryz.prog w= .ok (231,v) w:=by kernel_rfl
set_option maxRecDepth 100000 in
set_option maxHeartbeats 4000000 in
theorem is_wrap_same (pb po:Nat) (b:Addr) (w:World) (h1:w.cell? ⟨pb,po+1,none⟩=some (.iface 281 (.pointer (some b)))):
 Calls Tryz.prog 80 #[.iface 107 (.pointer (some ⟨pb,po,none⟩)),.iface 281 (.pointer (some b))] w fun e w'=>e= .returned (.bool true)∧w'=w:=by
 obtain ⟨i,hi,hcmp⟩:=Option.map_eq_some_iff.1 Tryz.isComp
 obtain ⟨j,hj,hjs⟩:=Option.map_eq_some_iff.1 Tryz.isSize
 have h8:=@run_callFunc_extern Tryz.prog 129 _ Extern.ReflectliteType.typeOf Tryz.func129 (by kernel_rfl) (by kernel_rfl) (by kernel_rfl) (by kernel_rfl)
 have h32:=@run_callFunc_extern Tryz.prog 237 _ cmpEntry Tryz.func237 (by kernel_rfl) (by kernel_rfl) (by kernel_rfl) (by kernel_rfl)
 have tT:=Tryz.isTypeOf
 have cT:=Tryz.isComparable
 have mR:=Tryz.isMethodComparable
 have nE:=Tryz.noIsE
 have uE:=Tryz.noUnwrapE
 have vE:=Tryz.noUnwrapsE
 have nW:=Tryz.noIsW
 have uW:=Tryz.hasUnwrapW
 have mU:=Tryz.methodUnwrap
 have heq:=run_eql_iface_ptr_same (P:=Tryz.prog) w b Tryz.underlying27 Tryz.underlying281 hi hcmp hj
 have hty:=run_eql_iface_types (P:=Tryz.prog) 107 281 (.pointer (some ⟨pb,po,none⟩)) (.pointer (some b)) Tryz.underlying27 (by decide) w
 go_enter Tryz.func80,Tryz.ntmps80
 go_wp2
 refine wp_loop_rounds 2 ?_
 rw [rounds_succ]
 go_wp2
 rw [rounds_succ]
 go_wp2
 go_ret
 exact ⟨rfl,rfl⟩
set_option maxRecDepth 100000 in
set_option maxHeartbeats 4000000 in
theorem is_wrap_other (pb po:Nat) (b a:Addr) (ca cb:Array Value) (ta tb:TypeId) (w:World) (h1:w.cell? ⟨pb,po+1,none⟩=some (.iface 281 (.pointer (some a)))) (hne:a≠b) (ha:w.heap[a.block]? =some (.cells ca ta (0,0))) (hb:w.heap[b.block]? =some (.cells cb tb (0,0))):
 Calls Tryz.prog 80 #[.iface 107 (.pointer (some ⟨pb,po,none⟩)),.iface 281 (.pointer (some b))] w fun e w'=>e= .returned (.bool false)∧w'=w:=by
 obtain ⟨i,hi,hcmp⟩:=Option.map_eq_some_iff.1 Tryz.isComp
 obtain ⟨j,hj,hjs⟩:=Option.map_eq_some_iff.1 Tryz.isSize
 have h8:=@run_callFunc_extern Tryz.prog 129 _ Extern.ReflectliteType.typeOf Tryz.func129 (by kernel_rfl) (by kernel_rfl) (by kernel_rfl) (by kernel_rfl)
 have h32:=@run_callFunc_extern Tryz.prog 237 _ cmpEntry Tryz.func237 (by kernel_rfl) (by kernel_rfl) (by kernel_rfl) (by kernel_rfl)
 have tT:=Tryz.isTypeOf
 have cT:=Tryz.isComparable
 have mR:=Tryz.isMethodComparable
 have nE:=Tryz.noIsE
 have uE:=Tryz.noUnwrapE
 have vE:=Tryz.noUnwrapsE
 have nW:=Tryz.noIsW
 have uW:=Tryz.hasUnwrapW
 have mU:=Tryz.methodUnwrap
 have heq:=run_eql_iface_ptr_other (P:=Tryz.prog) w Tryz.underlying27 Tryz.underlying281 hi hcmp hj (by rw [hjs];decide) hne ha hb
 have hty:=run_eql_iface_types (P:=Tryz.prog) 107 281 (.pointer (some ⟨pb,po,none⟩)) (.pointer (some b)) Tryz.underlying27 (by decide) w
 go_enter Tryz.func80,Tryz.ntmps80
 go_wp2
 refine wp_loop_rounds 2 ?_
 rw [rounds_succ]
 go_wp2
 rw [rounds_succ]
 go_wp2
 go_ret
 exact ⟨rfl,rfl⟩
theorem Tryz.asValueOfT (t:Addr) (w:World):(ReflectliteValue.unpack (.iface 155 (.pointer (some t)))).run Tryz.prog w
 = .ok (.agg #[.pointer (some ⟨19,155,none⟩),.pointer (some ⟨w.heap.size,0,none⟩),.int .u64 150]) (w.alloc (.cells #[.pointer (some t)] 155)):=by kernel_rfl
theorem Tryz.asTypeT (a:Addr) (w:World):(ReflectliteValue.methodAny (ReflectliteValue.valueError "reflectlite.Value.Type" 0) (fun t _ _ _=>ReflectliteType.toType t) #[.agg #[.pointer (some ⟨19,155,none⟩),.pointer (some a),.int .u64 150]]).run Tryz.prog w
 = .ok (.iface 233 (.agg #[.pointer (some ⟨19,155,none⟩)])) w:=by kernel_rfl
theorem Tryz.asMethodKind (h:Value) (w:World):(Go.method 420 233 (.agg #[h]) "Kind").run Tryz.prog w= .ok (226,h) w:=by kernel_rfl
theorem Tryz.asKindT (w:World):((ReflectliteType.abiMethod fun t=>(fun a:Nat=>Value.int IntKind.u8 (a:Int)) <$> Rtype.kind t) #[.pointer (some ⟨19,155,none⟩)]).run Tryz.prog w= .ok (.int .u8 22) w:=by kernel_rfl
theorem Tryz.asKindF (w:World):((ReflectliteType.abiMethod fun t=>(fun a:Nat=>Value.int IntKind.u8 (a:Int)) <$> Rtype.kind t) #[.pointer (some ⟨19,107,none⟩)]).run Tryz.prog w= .ok (.int .u8 22) w:=by kernel_rfl
theorem rlm (z:Sem Value) (f:TypeId→Addr→Nat→Nat→Sem Value) (v:Value):
 ReflectliteValue.method z f #[v]=(do match ← ReflectliteValue.parts v with | none=>z | some (t,a,fl)=>f t a fl (fl % 32)):=rfl
theorem Tryz.asPartsT (a:Addr) (w:World):(ReflectliteValue.parts (.agg #[.pointer (some ⟨19,155,none⟩),.pointer (some a),.int .u64 150])).run Tryz.prog w= .ok (some (155,a,150)) w:=by kernel_rfl
theorem Tryz.asIsNilT (a p:Addr) (W:World) (ha:W.cell? a=some (.pointer (some p))):
 (ReflectliteValue.method (ReflectliteValue.valueError "reflectlite.Value.IsNil" 0) ReflectliteValue.isNil #[.agg #[.pointer (some ⟨19,155,none⟩),.pointer (some a),.int .u64 150]]).run Tryz.prog W= .ok (.bool false) W:=by
 rw [rlm]
 simp only [Sem.run_bind,Tryz.asPartsT,Result.andThen]
 simp [ReflectliteValue.isNil,loadVar,isAgg,underlying,Tryz.underlying155,ha,Result.andThen]
theorem Tryz.asMethodElem (h:Value) (w:World):(Go.method 420 233 (.agg #[h]) "Elem").run Tryz.prog w= .ok (238,.agg #[h]) w:=by kernel_rfl
theorem Tryz.asMethodImplements (h:Value) (w:World):(Go.method 420 233 (.agg #[h]) "Implements").run Tryz.prog w= .ok (239,.agg #[h]) w:=by kernel_rfl
theorem Tryz.asMethodAssignableTo (h:Value) (w:World):(Go.method 420 233 (.agg #[h]) "AssignableTo").run Tryz.prog w= .ok (236,.agg #[h]) w:=by kernel_rfl
theorem Tryz.asElemT (w:World):(ReflectliteType.method ReflectliteType.elem #[.agg #[.pointer (some ⟨19,155,none⟩)]]).run Tryz.prog w= .ok (.iface 233 (.agg #[.pointer (some ⟨19,107,none⟩)])) w:=by kernel_rfl
theorem Tryz.asImplementsF (w:World):(ReflectliteType.relation "Implements" ReflectliteType.implements_ #[.agg #[.pointer (some ⟨19,107,none⟩)],.iface 233 (.agg #[.pointer (some ⟨19,27,none⟩)])]).run Tryz.prog w= .ok (.bool true) w:=by kernel_rfl
theorem Tryz.asTypeOfF (v:Value) (w:World):(ReflectliteType.typeOf #[.iface 107 v]).run Tryz.prog w= .ok (.iface 233 (.agg #[.pointer (some ⟨19,107,none⟩)])) w:=by kernel_rfl
theorem Tryz.asAssignableF (w:World):(ReflectliteType.relation "AssignableTo" ReflectliteType.assignableTo #[.agg #[.pointer (some ⟨19,107,none⟩)],.iface 233 (.agg #[.pointer (some ⟨19,107,none⟩)])]).run Tryz.prog w= .ok (.bool true) w:=by kernel_rfl
theorem Tryz.asValueOfF (e:Addr) (w:World):(ReflectliteValue.unpack (.iface 107 (.pointer (some e)))).run Tryz.prog w
 = .ok (.agg #[.pointer (some ⟨19,107,none⟩),.pointer (some ⟨w.heap.size,0,none⟩),.int .u64 150]) (w.alloc (.cells #[.pointer (some e)] 107)):=by kernel_rfl
theorem Tryz.asElemOfT (w:World):(Rtype.elem? 155).run Tryz.prog w= .ok (some 107) w:=by kernel_rfl
theorem Tryz.asMkF (p:Addr) (w:World):(ReflectliteValue.mk 107 p ReflectliteValue.flagAddr).run Tryz.prog w= .ok (.agg #[.pointer (some ⟨19,107,none⟩),.pointer (some p),.int .u64 406]) w:=by kernel_rfl
theorem Tryz.asElemVT (a p:Addr) (W:World) (ha:W.cell? a=some (.pointer (some p))):
 (ReflectliteValue.method (ReflectliteValue.valueError "reflectlite.Value.Elem" 0) ReflectliteValue.elem #[.agg #[.pointer (some ⟨19,155,none⟩),.pointer (some a),.int .u64 150]]).run Tryz.prog W
   = .ok (.agg #[.pointer (some ⟨19,107,none⟩),.pointer (some p),.int .u64 406]) W:=by
 rw [rlm]
 simp only [Sem.run_bind,Tryz.asPartsT,Result.andThen]
 simp [ReflectliteValue.elem,loadVar,isAgg,underlying,Tryz.underlying155,ha,Result.andThen,Tryz.asElemOfT,Tryz.asMkF]
theorem rls (v x:Value):ReflectliteValue.set #[v,x]=(do
 let (some (dst,a,fl),some (src,b,_)):=(← ReflectliteValue.parts v,← ReflectliteValue.parts x)
  | unsupported (.noEntry "extern/(internal/reflectlite.Value).Set.zeroValue")
 if fl / ReflectliteValue.flagAddr % 2 == 0 then unsupported (.noEntry "extern/(internal/reflectlite.Value).Set.unaddressable")
 let val ← loadVar src b
 if ← Rtype.directlyAssignable dst src then storeVar dst a val
 else if ← Rtype.implements dst src then
  if (← Rtype.kind src) == 20 then
   match val with
   | .nilIface=>unsupported (.noEntry "extern/reflectlite: a nil value of one interface type handed on as a value of another")
   | _=>storeVar dst a val
  else storeVar dst a (.iface src val)
 else panicString ("reflectlite.Set: value of type " ++ (← Rtype.spelt src) ++ " is not assignable to type " ++ (← Rtype.spelt dst))
 pure (.tuple #[])):=rfl
theorem Tryz.asPartsFa (a:Addr) (w:World):(ReflectliteValue.parts (.agg #[.pointer (some ⟨19,107,none⟩),.pointer (some a),.int .u64 406])).run Tryz.prog w= .ok (some (107,a,406)) w:=by kernel_rfl
theorem Tryz.asPartsF (a:Addr) (w:World):(ReflectliteValue.parts (.agg #[.pointer (some ⟨19,107,none⟩),.pointer (some a),.int .u64 150])).run Tryz.prog w= .ok (some (107,a,150)) w:=by kernel_rfl
theorem Tryz.asDirectF (w:World):(Rtype.directlyAssignable 107 107).run Tryz.prog w= .ok true w:=by kernel_rfl
theorem Tryz.asSetF (ta b e:Addr) (old:Value) (W:World) (hb:W.cell? b=some (.pointer (some e))) (ht:W.cell? ta=some old) (hf:W.frozen? ta=false):
 (ReflectliteValue.set #[.agg #[.pointer (some ⟨19,107,none⟩),.pointer (some ta),.int .u64 406],.agg #[.pointer (some ⟨19,107,none⟩),.pointer (some b),.int .u64 150]]).run Tryz.prog W
   = .ok (.tuple #[]) (W.setCell ta (.pointer (some e))):=by
 rw [rls]
 simp only [Sem.run_bind,Tryz.asPartsFa,Tryz.asPartsF,Result.andThen]
 simp [ReflectliteValue.flagAddr,loadVar,isAgg,underlying,Tryz.underlying107,hb,Result.andThen,Tryz.asDirectF,storeVar,Value.cells,storeCells,Addr.add]
 rw [run_store Tryz.prog W ta _ _ (by rfl)]
 simp [ht,hf]
set_option maxRecDepth 100000 in
set_option maxHeartbeats 8000000 in
theorem as_hit (e t:Addr) (old:Value) (w:World) (hg:w.cell? ⟨7,0,none⟩=some (.iface 233 (.agg #[.pointer (some ⟨19,27,none⟩)]))) (ht0:w.cell? t=some old) (hf0:w.frozen? t=false):
 Calls Tryz.prog 79 #[.iface 107 (.pointer (some e)),.iface 155 (.pointer (some t))] w fun ev w'=>ev= .returned (.bool true)∧w'=((((w.alloc (.cells #[.pointer (some t)] 155)).alloc (.cells #[.pointer (some ⟨19,155,none⟩),.pointer (some ⟨w.heap.size,0,none⟩),.int .u64 150] 201)).alloc (.cells #[.pointer (some ⟨19,155,none⟩),.pointer (some ⟨w.heap.size,0,none⟩),.int .u64 150] 201)).alloc (.cells #[.pointer (some e)] 107)).setCell t (.pointer (some e)):=by
 have h6:=@run_callFunc_extern Tryz.prog 125 _ (fun args=>ReflectliteValue.unpack (args.getD 0 (.tuple #[]))) Tryz.func125 (by kernel_rfl) (by kernel_rfl) (by kernel_rfl) (by kernel_rfl)
 have h7:=@run_callFunc_extern Tryz.prog 126 _ (ReflectliteValue.methodAny (ReflectliteValue.valueError "reflectlite.Value.Type" 0) (fun t _ _ _=>ReflectliteType.toType t)) Tryz.func126 (by kernel_rfl) (by kernel_rfl) (by kernel_rfl) (by kernel_rfl)
 have h8:=@run_callFunc_extern Tryz.prog 127 _ (ReflectliteValue.method (ReflectliteValue.valueError "reflectlite.Value.IsNil" 0) ReflectliteValue.isNil) Tryz.func127 (by kernel_rfl) (by kernel_rfl) (by kernel_rfl) (by kernel_rfl)
 have h27:=@run_callFunc_extern Tryz.prog 226 _ (ReflectliteType.abiMethod fun t=>do pure (.int .u8 (← Rtype.kind t))) Tryz.func226 (by kernel_rfl) (by kernel_rfl) (by kernel_rfl) (by kernel_rfl)
 have h37:=@run_callFunc_extern Tryz.prog 238 _ (ReflectliteType.method ReflectliteType.elem) Tryz.func238 (by kernel_rfl) (by kernel_rfl) (by kernel_rfl) (by kernel_rfl)
 have h38:=@run_callFunc_extern Tryz.prog 239 _ (ReflectliteType.relation "Implements" ReflectliteType.implements_) Tryz.func239 (by kernel_rfl) (by kernel_rfl) (by kernel_rfl) (by kernel_rfl)
 have h10:=@run_callFunc_extern Tryz.prog 129 _ ReflectliteType.typeOf Tryz.func129 (by kernel_rfl) (by kernel_rfl) (by kernel_rfl) (by kernel_rfl)
 have h35:=@run_callFunc_extern Tryz.prog 236 _ (ReflectliteType.relation "AssignableTo" ReflectliteType.assignableTo) Tryz.func236 (by kernel_rfl) (by kernel_rfl) (by kernel_rfl) (by kernel_rfl)
 have mA:=Tryz.asMethodAssignableTo
 have f6:=Tryz.asValueOfT
 have f7:=Tryz.asTypeT
 have mK:=Tryz.asMethodKind
 have mE:=Tryz.asMethodElem
 have mI:=Tryz.asMethodImplements
 have k27:=Tryz.asKindT
 have k25:=Tryz.asKindF
 have e27:=Tryz.asElemT
 have i25:=Tryz.asImplementsF
 have n8:=Tryz.asIsNilT ⟨w.heap.size,0,none⟩ t ((w.alloc (.cells #[.pointer (some t)] 155)).alloc (.cells #[.pointer (some ⟨19,155,none⟩),.pointer (some ⟨w.heap.size,0,none⟩),.int .u64 150] 201)) (by simp)
 have hlt:7 < w.heap.size:=World.block_lt_of_cell? w _ hg
 have hg2:((w.alloc (.cells #[.pointer (some t)] 155)).alloc (.cells #[.pointer (some ⟨19,155,none⟩),.pointer (some ⟨w.heap.size,0,none⟩),.int .u64 150] 201)).cell? ⟨7,0,none⟩=some (.iface 233 (.agg #[.pointer (some ⟨19,27,none⟩)])):=by
  rw [World.cell?_alloc_lt _ _ ⟨7,0,none⟩ (by simp;omega),World.cell?_alloc_lt _ _ ⟨7,0,none⟩ hlt];exact hg
 have h11:=@run_callFunc_extern Tryz.prog 158 _ (ReflectliteValue.method (ReflectliteValue.valueError "reflectlite.Value.Elem" 0) ReflectliteValue.elem) Tryz.func158 (by kernel_rfl) (by kernel_rfl) (by kernel_rfl) (by kernel_rfl)
 have h12:=@run_callFunc_extern Tryz.prog 159 _ ReflectliteValue.set Tryz.func159 (by kernel_rfl) (by kernel_rfl) (by kernel_rfl) (by kernel_rfl)
 have tO:=Tryz.asTypeOfF
 have a25:=Tryz.asAssignableF
 have v25:=Tryz.asValueOfF
 have htl:t.block < w.heap.size:=World.block_lt_of_cell? w _ ht0
 have el:=Tryz.asElemVT ⟨w.heap.size,0,none⟩ t (((w.alloc (.cells #[.pointer (some t)] 155)).alloc (.cells #[.pointer (some ⟨19,155,none⟩),.pointer (some ⟨w.heap.size,0,none⟩),.int .u64 150] 201)).alloc (.cells #[.pointer (some ⟨19,155,none⟩),.pointer (some ⟨w.heap.size,0,none⟩),.int .u64 150] 201)) (by rw [World.cell?_alloc_lt _ _ ⟨w.heap.size,0,none⟩ (by simp;omega)];simp)
 have st:=Tryz.asSetF t ⟨w.heap.size+1+1+1,0,none⟩ e old ((((w.alloc (.cells #[.pointer (some t)] 155)).alloc (.cells #[.pointer (some ⟨19,155,none⟩),.pointer (some ⟨w.heap.size,0,none⟩),.int .u64 150] 201)).alloc (.cells #[.pointer (some ⟨19,155,none⟩),.pointer (some ⟨w.heap.size,0,none⟩),.int .u64 150] 201)).alloc (.cells #[.pointer (some e)] 107))
  (by rw [World.cell?_alloc_at _ _ _ _ (by simp)];rfl)
  (by rw [World.cell?_alloc_lt _ _ t (by simp;omega),World.cell?_alloc_lt _ _ t (by simp;omega),World.cell?_alloc_lt _ _ t (by simp;omega),World.cell?_alloc_lt _ _ t htl];exact ht0)
  (by rw [World.frozen?_alloc_old _ _ t (by simp;omega),World.frozen?_alloc_old _ _ t (by simp;omega),World.frozen?_alloc_old _ _ t (by simp;omega),World.frozen?_alloc_old _ _ t (Nat.ne_of_lt htl)];exact hf0)
 go_enter Tryz.func79,Tryz.ntmps79
 go_wp2
 refine wp_loop_rounds 1 ?_
 rw [rounds_succ]
 go_wp2
 go_ret
 exact ⟨rfl,rfl⟩
end Go.Proofs.YtdoaeapahgmfoaaGreatDoor

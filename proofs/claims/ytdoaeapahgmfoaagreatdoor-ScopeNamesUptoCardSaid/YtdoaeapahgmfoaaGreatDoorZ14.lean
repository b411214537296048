/- The writer's names, and lists of terms (where terms are given). The builder in the writer's own block: copyCheck, WriteString, Len, String; the writer's line. The writer's line. -/
import Derived.Deep.RegionHeld3
import Derived.Lib.Builder
import Derived.Lib.UnsafeStr
import Derived.Test.YtdoaeapahgmfoaaGreatDoorZ12
import Derived.Test.YtdoaeapahgmfoaaGreatDoorZ13
namespace Go.Proofs.YtdoaeapahgmfoaaGreatDoor
open Go.RowKit
theorem strs_sum (zs:List (List UInt8)):(zs.map fun s=>s.length+2).sum≤2 * strsBulk zs:=by
 unfold strsBulk
 induction zs with
 | nil=>simp
 | cons s r ih=>simp only [List.map_cons,List.sum_cons] at *;omega
theorem strsBulk_mem {zs:List (List UInt8)} {s:List UInt8} (h:s ∈ zs):s.length+1≤strsBulk zs:=by
 unfold strsBulk
 induction zs with
 | nil=>cases h
 | cons a r ih=>
   simp only [List.map_cons,List.sum_cons]
   rcases List.mem_cons.1 h with rfl | h
   · omega
   · have:=ih h;omega
theorem namesW_take (st:WS) (zs:List (List UInt8)) (j:Nat) (hj:j < zs.length):st.namesW (zs.take (j+1))=(st.namesW (zs.take j)).nameW zs[j]:=by
 unfold WS.namesW
 rw [take_snoc zs j hj,List.foldl_append]
 rfl
set_option maxRecDepth 100000 in
set_option maxHeartbeats 20000000 in
theorem names_any {w:World} {x:Nat} {st:WS} {p v:Value} {l:List UInt8} (h:WrC w x st p v l) (zs:List (List UInt8)) (vz:Value) (hz:StrsAt w (Lo x) vz zs) (hb:strsBulk zs≤1100000) (hg:GlobT x w):
 Calls Tryz.prog 71 #[.pointer (some ⟨x,0,none⟩),vz] w (TextPost x w st p v l (2 * strsBulk zs) 0 fun n st'=>n=namesLen zs∧st'=st.namesW zs):=by
 have Hz:=Lib.hid hz
 obtain ⟨a,c,rfl,_,hr⟩:=hz
 have Hr:=Lib.hid hr;clear hr
 have hzl:=strsBulk_len zs
 have hzs:=strs_sum zs
 go_enter Tryz.func71,Tryz.ntmps71
 go_wp2_with fail
 go_loopw [6,9] (fun _ i wr=>∃ (j:Nat) (st1:WS),j≤zs.length∧i= .int .i64 j∧Nx st st1 0 0∧WrC wr x st1 p v l∧WStp x w wr∧st1=st.namesW (zs.take j)) (fun _ i _=>zs.length - (intOf i).toNat)
 case atStart=>exact ⟨0,st,by omega,rfl,Nx.refl _ _ _,h,WStp.refl _ _,rfl⟩
 case round=>
  obtain ⟨j,st1,hj,rfl,hn,h1,s1,hnw⟩:=hrel
  have HW:=Lib.hid hnw
  clear hnw
  have hbel:=WStp.below h s1
  by_cases hjl:j < zs.length
  · have t1:decide ((j:Int) < (zs.length:Int))=true:=by simp;omega
    obtain ⟨b,o,rfl,hbx,hc⟩:=Hr.out (by omega)
    have q:wr.cell? ⟨b,o+j,none⟩=some (.string (toBA zs[j])):=(hbel.cell (p:=⟨b,_,none⟩) hbx).trans (hc j hjl)
    have hlen:=strsBulk_mem (List.getElem_mem hjl)
    have hcall:=name_any h1 zs[j] (by omega) (hg.toGlobE.below hbel)
    have Hcall:=Lib.hid hcall;have Hn:=Lib.hid hn
    clear hc hcall hn
    go_wp2_with fail
    refine Hcall.out.mono ?_
    rintro _ w2 ⟨rfl,h2,s2⟩
    have hst:=s1.trans s2
    clear Hcall
    go_wp2_with fail
    go_roundw
    case rel=>exact ⟨j+1,_,by omega,by go_num,Hn.out.trans (Nx.name st1 zs[j] 0 0) (by omega) (by omega),h2,hst,by rw [namesW_take st zs j hjl,HW.out]⟩
    case measure=>simp [intOf];omega
  · have t1:decide ((j:Int) < (zs.length:Int))=false:=by simp;omega
    have hx1:=h1.lt
    have hjoin:=join_any (w:=wr) zs (.slice a zs.length c) (Lo x) (Hz.out.below hbel) (fun b hb=>Nat.lt_trans hb hx1) (by omega)
    have Hj:=Lib.hid hjoin;have Hn:=Lib.hid hn
    clear hjoin hn
    go_wp2_with fail
    refine Hj.out.mono ?_
    rintro _ w2 ⟨s,rfl,hs,hb2,hsn⟩
    obtain ⟨h2,s2⟩:=h1.grow hb2
    have hst:=s1.trans s2
    clear Hj
    go_wp2_with fail
    refine bodyPost_ret (results_tmp rfl _ _ _) rfl ?_
    have hw2:=HW.out
    rw [List.take_of_length_le (by omega)] at hw2
    exact ⟨s,st1,rfl,by omega,Hn.out,h2,hst,hsn,hw2⟩
def intFit (n:Int):Prop:= -9223372036854775808≤n∧n≤9223372036854775807
mutual
def Ex.fit:Ex→Prop
 | .mk _ n _ _ l=>intFit n∧exsFit l
def exsFit:List Ex→Prop
 | []=>True
 | e :: r=>e.fit∧exsFit r
end
theorem Ex.fit_eq (e:Ex):e.fit ↔ intFit e.n∧exsFit e.l:=by rcases e with ⟨_,_,_,_,_⟩;unfold Ex.fit;exact Iff.rfl
theorem exsFit_mem:∀ {l:List Ex} {e:Ex},exsFit l→e ∈ l→e.fit
 | a :: r,e,h,hm=>by
   unfold exsFit at h
   rcases List.mem_cons.1 hm with rfl | hm
   · exact h.1
   · exact exsFit_mem h.2 hm
def termK (e:Ex) (least:Nat):Nat:=3 * e.nodes+if least=0 then 0 else 1
def termB (e:Ex) (least:Nat):Nat:=64 * e.bulk - 8+if least=0 then 0 else 4
theorem termB_le (e:Ex) (k:Nat):termB e k≤64 * e.bulk - 4:=by
 have h:1≤e.bulk:=by rw [Ex.bulk_eq];omega
 unfold termB;split <;> omega
def TermC (f:Nat):Prop:=∀ (e:Ex) (least deep:Nat) (w:World) (x:Nat) (st:WS) (p v:Value) (l:List UInt8) (vp vl:Value),termK e least≤f→e.fit→e.bulk≤1100000→e.w≤6000→least≤100→
 deep+termK e least≤50000000→st.n+termK e least≤50000000→WrC w x st p v l→GlobT x w→StrsAt w (Lo x) vp e.p→ExsAt w (Lo x) vl e.l→
 Calls Tryz.prog 66 #[.pointer (some ⟨x,0,none⟩),.agg #[.string (toBA e.op),.int .i64 e.n,.string (toBA e.s),vp,vl],.int .i64 (least:Int),.int .i64 (deep:Int)] w (TextPost x w st p v l (termB e least) (termK e least) (TW e least deep st))
structure OutSt (w wr:World) (x:Nat) (vo:Value) (zs:List (List UInt8)):Prop where
 own:wr.ownsRow w.heap.size 9 1 vo zs.length (zs.map fun s=>Value.string (toBA s))
 safe:∀ g,vo.ownBlock=some g→WSafe wr x g∧w.heap.size≤g
theorem OutSt.step {w wr w1:World} {x:Nat} {vo:Value} {zs:List (List UInt8)} (h:OutSt w wr x vo zs) (s:WStp x wr w1):OutSt w w1 x vo zs:=
 ⟨own_same h.own fun b e=>(s.safe b (h.safe b e).1).2,fun g e=>⟨(s.safe g (h.safe g e).1).1,(h.safe g e).2⟩⟩
theorem exsBulk_take (l:List Ex) (j:Nat) (hj:j < l.length):exsBulk (l.take (j+1))=exsBulk (l.take j)+l[j].bulk:=by
 induction l generalizing j with
 | nil=>simp at hj
 | cons e r ih=>
   cases j with
   | zero=>simp [exsBulk]
   | succ j=>
     have:=ih j (by simpa using hj)
     simp only [List.take_succ_cons,exsBulk,List.getElem_cons_succ]
     omega
theorem exsNodes_take (l:List Ex) (j:Nat) (hj:j < l.length):exsNodes (l.take (j+1))=exsNodes (l.take j)+l[j].nodes:=by
 induction l generalizing j with
 | nil=>simp at hj
 | cons e r ih=>
   cases j with
   | zero=>simp [exsNodes]
   | succ j=>
     have:=ih j (by simpa using hj)
     simp only [List.take_succ_cons,exsNodes,List.getElem_cons_succ]
     omega
theorem exsNodes_le (l:List Ex) (j:Nat):exsNodes (l.take j)≤exsNodes l:=by
 induction l generalizing j with
 | nil=>simp [exsNodes]
 | cons e r ih=>cases j with
   | zero=>simp [exsNodes]
   | succ j=>have:=ih j;simp only [List.take_succ_cons,exsNodes];omega
theorem exsBulk_le (l:List Ex) (j:Nat):exsBulk (l.take j)≤exsBulk l:=by
 induction l generalizing j with
 | nil=>simp [exsBulk]
 | cons e r ih=>cases j with
   | zero=>simp [exsBulk]
   | succ j=>have:=ih j;simp only [List.take_succ_cons,exsBulk];omega
theorem Ex.bulk_pos (e:Ex):1≤e.bulk:=by rw [Ex.bulk_eq];omega
theorem Ex.nodes_bulk:∀ (k:Nat) (e:Ex),e.nodes≤k→e.nodes≤e.bulk
 | 0,e,h=>by rw [Ex.nodes_l] at h;omega
 | k+1,e,h=>by
   rw [Ex.nodes_l] at h ⊢
   rw [Ex.bulk_eq]
   have:∀ l:List Ex,exsNodes l≤k→exsNodes l≤exsBulk l:=by
    intro l
    induction l with
    | nil=>intro _;simp [exsNodes]
    | cons a r ih=>
      intro h
      unfold exsNodes at h ⊢
      unfold exsBulk
      have:=Ex.nodes_bulk k a (by omega)
      have:=ih (by omega)
      omega
   have:=this e.l (by omega)
   omega
theorem exsNodes_bulk (l:List Ex):exsNodes l≤exsBulk l:=by
 induction l with
 | nil=>simp [exsNodes]
 | cons a r ih=>
   unfold exsNodes exsBulk
   have:=Ex.nodes_bulk _ a (Nat.le_refl _)
   omega
set_option maxRecDepth 100000 in
set_option maxHeartbeats 20000000 in
theorem list_of {f:Nat} (hf:TermC f) {w:World} {x:Nat} {st:WS} {p v:Value} {l:List UInt8} (h:WrC w x st p v l) (es:List Ex) (ve:Value) (deep:Nat) (he:ExsAt w (Lo x) ve es) (hfe:∀ e ∈ es,3 * e.nodes≤f) (hft:exsFit es)
 (hbe:exsBulk es≤1100000) (hwe:exsW es≤6000) (hd:deep+3 * exsNodes es≤50000000) (hn:st.n+3 * exsNodes es≤50000000) (hg:GlobT x w):
 Calls Tryz.prog 107 #[.pointer (some ⟨x,0,none⟩),ve,.int .i64 (deep:Int)] w (TextPost x w st p v l (64 * exsBulk es) (3 * exsNodes es) fun n st'=>∃ ns,n=joinLen ns∧LW es deep st ns st'):=by
 obtain ⟨a,c,rfl,_,hr⟩:=he
 have Hr:=Lib.hid hr;have Hf:=Lib.hid hf;have Hfe:=Lib.hid hfe;have Hft:=Lib.hid hft
 clear hr hf hfe hft
 have hel:=exsBulk_len es
 go_enter Tryz.func107,Tryz.ntmps107
 go_wp2_with fail
 go_loopw [7,12] (fun o i wr=>∃ (j:Nat) (st1:WS) (zs:List (List UInt8)),j≤es.length∧i= .int .i64 j∧Nx st st1 (3 * exsNodes (es.take j)) 0∧zs.length=j∧(zs.map fun s=>s.length+2).sum≤64 * exsBulk (es.take j)∧OutSt w wr x o zs∧WrC wr x st1 p v l∧WStp x w wr∧LW (es.take j) deep st (zs.map List.length) st1) (fun _ i _=>es.length - (intOf i).toNat)
 case atStart=>exact ⟨0,st,[],by omega,rfl,Nx.refl _ _ _,rfl,by simp,⟨World.ownsRow_nil _ _ _ _,fun g e=>by cases e⟩,h,WStp.refl _ _,LW.nil _ _⟩
 case round=>
  obtain ⟨j,st1,zs,hj,rfl,hnx,hzl,hzs,hO,h1,s1,hlw⟩:=hrel
  have HLW:=Lib.hid hlw
  clear hlw
  have hbel:=WStp.below h s1
  by_cases hjl:j < es.length
  · have t1:decide ((j:Int) < (es.length:Int))=true:=by simp;omega
    obtain ⟨b,o,rfl,hbx,hrow⟩:=Hr.out (by omega)
    obtain ⟨vp,vl,q0,q1,q2,q3,q4,hp,hx⟩:=(hrow.at_ _ _ _ j hjl).open_
    have hbx':b < x:=hbx
    have q0:=(hbel.cell (p:=⟨b,_,none⟩) hbx').trans q0
    have q1:=(hbel.cell (p:=⟨b,_,none⟩) hbx').trans q1
    have q2:=(hbel.cell (p:=⟨b,_,none⟩) hbx').trans q2
    have q3:=(hbel.cell (p:=⟨b,_,none⟩) hbx').trans q3
    have q4:=(hbel.cell (p:=⟨b,_,none⟩) hbx').trans q4
    have hm:=exs_mem (List.getElem_mem hjl)
    have hmf:=Hfe.out _ (List.getElem_mem hjl)
    have hnt:=exsNodes_take es j hjl
    have hbt:=exsBulk_take es j hjl
    have hnl:=exsNodes_le es (j+1)
    have hx1:=h1.lt
    have hnn:=hnx.n
    have Hp:=Lib.hid hp;have Hx:=Lib.hid hx
    obtain ⟨ap,cp,rfl,_⟩:=hp
    obtain ⟨al,cl,rfl,_⟩:=hx
    have Hnx:=Lib.hid hnx;have HO:=Lib.hid hO;have Hnt:=Lib.hid hnt;have Hbt:=Lib.hid hbt;have Hzl:=Lib.hid hzl;have H1:=Lib.hid h1
    clear hrow hnx hO h1
    obtain ⟨i0,hi,hz0,hz1,hz2⟩:=info_parts Tryz.infoStrg
    have hal:=H1.out.alloc (.cells #[.string (toBA es[j].op),.int .i64 es[j].n,.string (toBA es[j].s),.slice ap es[j].p.length cp,.slice al es[j].l.length cl] 140)
    have hbA:=hbel.alloc (Nat.le_of_lt hx1) (.cells #[.string (toBA es[j].op),.int .i64 es[j].n,.string (toBA es[j].s),.slice ap es[j].p.length cp,.slice al es[j].l.length cl] 140)
    have hb1:es[j].bulk≤1100000:=by omega
    have hw1:es[j].w≤6000:=by omega
    have hn1:es[j].nodes≤exsNodes es:=hm.2.1
    have hdp:deep+termK es[j] 0≤50000000:=by unfold termK;simp;omega
    have hnp:st1.n+termK es[j] 0≤50000000:=by have:=Hnt.out;unfold termK;simp;omega
    have hcall:=Hf.out es[j] 0 deep _ x st1 p v l (.slice ap es[j].p.length cp) (.slice al es[j].l.length cl) (by unfold termK;simpa using hmf) (exsFit_mem Hft.out (List.getElem_mem hjl)) hb1 hw1 (by omega) hdp hnp hal.1 (hg.below hbA) (Hp.out.below hbA) (Hx.out.below hbA)
    have hcall:=hcall.mono (fun _ _ h=>h.mono (termB_le es[j] 0) (Nat.le_refl _))
    have Hcall:=Lib.hid hcall;have Hal:=Lib.hid hal.2.1
    have hzs2:(zs.map fun s=>s.length+2).sum≤64 * exsBulk es:=by have:=exsBulk_le es j;omega
    have Hzs:=Lib.hid hzs
    clear Hr hcall hal hm hmf hnt hbt hzl hnn hbA hdp hnp hzs
    go_wp2_with fail
    refine Hcall.out.mono ?_
    rintro _ w2 ⟨s,st2,rfl,hs,hnx2,h2,s2,htw⟩
    have HTW:=Lib.hid htw
    clear htw
    have hO2:=HO.out.step (Hal.out.trans s2)
    have hst2:=s1.trans (Hal.out.trans s2)
    have hsz2:=hst2.size
    have hown2:=hO2.own
    have hlen2:zs.length≤1100000:=by have:=Hzl.out;omega
    have HO2:=Lib.hid hO2;have Hst2:=Lib.hid hst2;have H2:=Lib.hid h2;have Hnx2:=Lib.hid hnx2;have Hs:=Lib.hid hs
    clear hO2 hst2 h2 hnx2 hs s2 Hcall Hal
    go_wp2_with (at_builtin;refine wpList_append_lies (w2.alloc (.cells #[.string s] 9)) rfl (.tmp 16) (.tmp 21) 36 rfl w.heap.size 9 i0 _ 1 16 Tryz.underlying36 hi hz0 hz1 hz2 rfl (by decide) _ zs.length (zs.map fun s=>Value.string (toBA s)) rfl (hown2.alloc _) ⟨w2.heap.size,0,none⟩ 1 1 [.string s] rfl rfl (World.news_of_block (cs:= #[.string s]) (heap_alloc_new w2 _)) (by simp [Value.oneCell']) (by decide) (by unfold maxLen;omega) (by omega) (by simp;omega) (w2.heap.size+1) (by simp) ?_;intro g5 cap5 w5 hown5 hg5 hat5 hlt5)
    have h5:=H2.out.app (fun g e=>(HO2.out.safe g e).1) hg5
    have s5:=Hst2.out.app H2.out HO2.out.safe hg5
    have hO5:OutSt w w5 x (.slice (some ⟨g5,0,none⟩) (zs.length+1) cap5) (zs ++ [s.data.toList]):=by
     refine ⟨?_,fun g e=> ?_⟩
     · rw [List.length_append,List.map_append];exact hown5
     · obtain rfl:g5=g:=Option.some.inj e
       refine ⟨safe_of_new H2.out (fun g e=>(HO2.out.safe g e).1) hg5 hlt5 (hat5.imp id fun e=>by omega),?_⟩
       rcases hat5 with e | e
       · exact (HO2.out.safe _ e).2
       · omega
    go_roundw
    case rel=>
     have e1:(zs ++ [s.data.toList]).length=j+1:=by rw [List.length_append,Hzl.out];rfl
     refine ⟨j+1,st2,zs ++ [s.data.toList],by omega,by go_num,?_,e1,?_,hO5,h5,s5,?_⟩
     · refine Hnx.out.trans Hnx2.out ?_ (Nat.le_refl _)
       rw [Hnt.out];unfold termK;simp;omega
     · rw [List.map_append,List.sum_append,Hbt.out]
       have h6:s.data.toList.length=s.size:=rfl
       have:=Hs.out
       have:=Hzs.out
       have:=Ex.bulk_pos es[j]
       simp only [List.map_cons,List.map_nil,List.sum_cons,List.sum_nil]
       omega
     · rw [List.map_append]
       exact LW.take hjl HLW.out HTW.out
    case measure=>simp [intOf];omega
  · have t1:decide ((j:Int) < (es.length:Int))=false:=by simp;omega
    obtain rfl:j=es.length:=by omega
    rw [List.take_of_length_le (Nat.le_refl _)] at hnx hzs
    have hx1:=h1.lt
    have hsa:=strs_own hO.own
    have hjoin:=join_any (w:=wr) zs _ _ hsa (fun b hb=>hb.2) (by omega)
    have Hj:=Lib.hid hjoin;have Hn:=Lib.hid hnx;have H1:=Lib.hid h1;have S1:=Lib.hid s1;have Hzs:=Lib.hid hzs
    clear hjoin hnx h1 s1 hO hsa hzs hzl
    go_wp2_with fail
    refine Hj.out.mono ?_
    rintro _ w2 ⟨s,rfl,hs,hb2,hsn⟩
    obtain ⟨h2,s2⟩:=H1.out.grow hb2
    have hst:=S1.out.trans s2
    clear Hj
    go_wp2_with fail
    refine bodyPost_ret (results_tmp rfl _ _ _) rfl ?_
    have hl2:=HLW.out
    rw [List.take_of_length_le (Nat.le_refl _)] at hl2
    exact ⟨s,st1,rfl,by have:=Hzs.out;omega,Hn.out,h2,hst,_,hsn,hl2⟩
end Go.Proofs.YtdoaeapahgmfoaaGreatDoor
namespace Go.Proofs.YtdoaeapahgmfoaaGreatDoor
open Go.RowKit
theorem Tryz.sizeBld:(Tryz.prog.info? 77).map (·.size)=some 2:=by kernel_rfl
theorem Tryz.liesBld:liesAt Tryz.prog Tryz.prog.depth 79 (5 / Tryz.prog.cellsOf 79) 0 77 1=true:=by kernel_rfl
theorem Tryz.cellsByte:Tryz.prog.cellsOf 5=1:=by kernel_rfl
theorem append_str_at (w:World) (base:Nat) (t u ty e:TypeId) (i:TypeInfo) (ht:Tryz.prog.underlying t=some (.slice e)) (hu:Tryz.prog.underlying u=some .string) (hi:Tryz.prog.info? e=some i) (hz:i.zero=some (.int .u8 0))
 (hsize:i.size=1) (hby:i.bytes=1) (v:Value) (n:Nat) (xs:List Value) (hown:w.ownsRow base e 1 v n xs) (s:ByteArray)
 (h63:n+s.size≤maxLen) (hbytes:n+s.size≤140737488355328) (hbase:base≤w.heap.size):
 ∃ v' w',(Builtin.append_ #[t,u] ty #[v,.string s]).run Tryz.prog w= .ok v' w'∧w'.ownsRow base e 1 v' (n+s.size) (xs ++ Lib.strCells s)∧w.grownBy w' v.ownBlock∧(v'.ownBlock=v.ownBlock∨v'.ownBlock=some w.heap.size):=by
 obtain ⟨v',w',hr,h2,h3,h4⟩:=Lib.run_append_own_string (P:=Tryz.prog) w base t u ty e i ht hu hi hz hsize hby v n xs hown s h63 hbytes hbase
 refine ⟨v',w',hr,h2,h3,?_⟩
 have hxl:xs.length=n:=by simpa using hown.1
 have hsmall:n+s.size≤9223372036854775807:=by simp only [maxLen] at h63;omega
 rcases hown.2 with ⟨rfl,rfl⟩ | ⟨g,cap,cur,rfl,hbg,hg,hnc,hcm,hcs,htake⟩
 · by_cases hm:s.size=0
   · rw [h4.2 ⟨rfl,hm⟩];exact .inl rfl
   · have hr2:=run_append_nil_string (P:=Tryz.prog) w t u ty e i (.int .u8 0) ht hu hi hz s (by omega) (by omega) (by rw [hby];omega)
     rw [hr] at hr2
     injection hr2 with e1 _
     rw [e1];exact .inr rfl
 · by_cases hroom:n+s.size≤cap
   · have hcs':cur.size=cap:=by simpa using hcs
     have hr2:=Lib.run_append_room_string (P:=Tryz.prog) w t u ty e i ht hu hi hsize g n cap cur hg s hroom (by omega)
     rw [hr] at hr2
     injection hr2 with e1 _
     rw [e1];exact .inl rfl
   · have holds:∀ j u,xs[j]? =some u→w.cell? ((⟨g,0,none⟩:Addr).add j)=some u:=hown.cells (g:=g) rfl
     have hr2:=Lib.run_append_grow_string (P:=Tryz.prog) w t u ty e i (.int .u8 0) ht hu hi hz ⟨g,0,none⟩ n cap xs (by rw [hsize];simpa using hxl) holds s (by omega) (by omega) (by rw [hby];exact growslice_fits (by omega) (by omega))
     rw [hr] at hr2
     injection hr2 with e1 _
     rw [e1];exact .inr rfl
theorem wpList_append_str_at {w:World} {ops:Array Oper} {rest:List Oper} {o:Oper} {a:Act} {Q:Exit→Act→World→Prop} (hgd:o.guard=none) (sl x:Operand) (t u:TypeId)
 (ho:o.op= .call { callee:= .builtin .append,args:= #[sl,x],argTypes:= #[t,u] })
 (base:Nat) (e:TypeId) (i:TypeInfo) (ht:Tryz.prog.underlying t=some (.slice e)) (hu:Tryz.prog.underlying u=some .string) (hi:Tryz.prog.info? e=some i) (hz:i.zero=some (.int .u8 0))
 (hsize:i.size=1) (hby:i.bytes=1) (v:Value) (n:Nat) (xs:List Value) (hs:a.eval sl=v) (hown:w.ownsRow base e 1 v n xs) (s:ByteArray) (hx:a.eval x= .string s)
 (h63:n+s.size≤maxLen) (hbytes:n+s.size≤140737488355328) (hbase:base≤w.heap.size)
 (h:∀ v' w',w'.ownsRow base e 1 v' (n+s.size) (xs ++ Lib.strCells s)→w.grownBy w' v.ownBlock→(v'.ownBlock=v.ownBlock∨v'.ownBlock=some w.heap.size)→wpList Tryz.prog ops Q rest (a.put o.dst v') w'):wpList Tryz.prog ops Q (o :: rest) a w:=by
 refine wpList_plain hgd fun K hK=> ?_
 obtain ⟨v',w',hr,h2,h3,h4⟩:=append_str_at w base t u o.type e i ht hu hi hz hsize hby v n xs hown s h63 hbytes hbase
 unfold Oper.wp execOp
 simp only [ho,resolve,invoke,builtin,Sem.run_bind,Sem.run_pure,Result.andThen_ok,List.map_toArray,List.map_cons,List.map_nil,hs,hx,hr]
 exact hK _ _ (h v' w' h2 h3 h4)
section
variable {w:World} {x:Nat} {st:WS} {p v:Value} {l:List UInt8}
theorem WrC.setAddr (h:WrC w x st p v l):WrC (w.setCell ⟨x,0,none⟩ (.pointer (some ⟨x,0,none⟩))) x st (.pointer (some ⟨x,0,none⟩)) v l∧WStp x w (w.setCell ⟨x,0,none⟩ (.pointer (some ⟨x,0,none⟩))):=by
 have h1:WrC (w.setCell ⟨x,0,none⟩ (.pointer (some ⟨x,0,none⟩))) x st (.pointer (some ⟨x,0,none⟩)) v l:=⟨heap_setCell_at (o:=0) h.blk,.inr rfl,ownsRow_setCell h.buf h.ne,h.len,h.ne⟩
 exact ⟨h1,h.next h1 rfl rfl rfl (by simp) (fun k _ hk _=>Below.heap_setCell _ _ _ _ hk) (fun k e=> .inl e)⟩
end
set_option maxRecDepth 100000 in
set_option maxHeartbeats 20000000 in
theorem copyCheck_any {w:World} {x:Nat} {st:WS} {p v:Value} {l:List UInt8} (h:WrC w x st p v l):
 Calls Tryz.prog 97 #[.pointer (some ⟨x,0,none⟩)] w fun e w'=>e= .returned (.tuple #[])∧WrC w' x st (.pointer (some ⟨x,0,none⟩)) v l∧WStp x w w':=by
 obtain ⟨j,hj,hjs⟩:=Option.map_eq_some_iff.1 Tryz.sizeBld
 have c0:=h.c0
 have f0:=h.f 0
 have hx:=h.lt
 rcases h.addr with rfl | rfl
 · have hsh:w.shape? x=some (79,5):=by simp [World.shape?,h.blk]
   have hs:=h.setAddr
   have r1:=Lib.run_to_unsafe (P:=Tryz.prog) w ⟨x,0,none⟩ Tryz.underlying74 Tryz.underlying198 hj (by rw [hjs];decide) hsh (Nat.zero_lt_succ 4)
   have r2:=Lib.run_from_unsafe (P:=Tryz.prog) w ⟨x,0,none⟩ Tryz.underlying198 Tryz.underlying74 hj hsh Tryz.liesBld
   have Hs:=Lib.hid hs;clear hs
   clear h
   go_enter Tryz.func97,Tryz.ntmps97
   go_wp2_with fail
   rw [run_callFunc_extern Tryz.func146 (by kernel_rfl) (by kernel_rfl) (by kernel_rfl) (e:=Extern.AbiNoEscape.same) (by kernel_rfl)]
   rw [Lib.run_noEscape]
   simp only [Result.andThen]
   rw [Oper.upon_value]
   go_wp2_with fail
   go_end0
   exact ⟨rfl,Hs.out.1,Hs.out.2⟩
 · clear f0
   have Hs:=Lib.hid h
   clear h
   go_enter Tryz.func97,Tryz.ntmps97
   go_wp2_with fail
   rw [Lib.run_neq_ptr_same w _ Tryz.underlying74 hj]
   go_wp2_with fail
   go_end0
   exact ⟨rfl,Hs.out,WStp.refl _ _⟩
theorem WrC.setBuf {w w1:World} {x:Nat} {st:WS} {p v:Value} {l:List UInt8} (h:WrC w x st p v l) (hg:w.grownBy w1 v.ownBlock) (v':Value) (l':List UInt8) (hown:w1.ownsRow x 5 1 v' l'.length (byteCells l')) (hat:v'.ownBlock=v.ownBlock∨v'.ownBlock=some w.heap.size):
 WrC (w1.setCell ⟨x,1,none⟩ v') x { st with len:=l'.length } p v' l'∧WStp x w (w1.setCell ⟨x,1,none⟩ v'):=by
 have hx:=h.lt
 have hx1:w1.heap[x]? =w.heap[x]? :=hg.block x hx fun e=>h.ne e.symm
 have hne:v'.ownBlock≠some x:=fun e=>by
  rcases hat with e2 | e2
  · exact h.ne (e2.symm.trans e)
  · have:=Option.some.inj (e2.symm.trans e);omega
 have h1:WrC (w1.setCell ⟨x,1,none⟩ v') x { st with len:=l'.length } p v' l':=⟨heap_setCell_at (o:=1) (hx1.trans h.blk),h.addr,ownsRow_setCell hown hne,rfl,hne⟩
 refine ⟨h1,h.next h1 hg.os hg.tape hg.output (by simpa using hg.size) (fun k hk hkx hkv=> ?_) (fun k e=> ?_)⟩
 · rw [Below.heap_setCell _ _ _ _ hkx]
   exact hg.block k hk fun e=>hkv e.symm
 · rcases hat with e2 | e2
   · exact .inl (e2.symm.trans e)
   · have:=Option.some.inj (e2.symm.trans e);exact .inr (by omega)
def WritePost (x:Nat) (w:World) (st:WS) (l:List UInt8) (s:ByteArray) (e:Ending) (w':World):Prop:=
 e= .returned (.tuple #[.int .i64 (s.size:Int),.nilIface])∧∃ v',WrC w' x { st with len:=st.len+s.size } (.pointer (some ⟨x,0,none⟩)) v' (l ++ s.data.toList)∧WStp x w w'
set_option maxRecDepth 100000 in
set_option maxHeartbeats 20000000 in
theorem wwriteStr_any {w:World} {x:Nat} {st:WS} {p v:Value} {l:List UInt8} (h:WrC w x st p v l) (s:ByteArray) (hs:st.len+s.size≤100000000000000):
 Calls Tryz.prog 57 #[.pointer (some ⟨x,0,none⟩),.string s] w (WritePost x w st l s):=by
 have hcall:=copyCheck_any h
 have hl:l.length=st.len:=h.len
 have Hcall:=Lib.hid hcall;have Hl:=Lib.hid hl
 have hlb:l.length+s.size≤100000000000000:=by omega
 clear hcall hl h
 obtain ⟨i0,hi,hz0,hz1,hz2⟩:=info_parts Tryz.infoByte
 go_enter Tryz.func57,Tryz.ntmps57
 go_wp2_with fail
 refine Hcall.out.mono ?_
 rintro _ w2 ⟨rfl,h2,s2⟩
 have c1:=h2.c1
 have hx2:=h2.lt
 have hbuf:=h2.buf
 have hfar:∀ w1,w2.grownBy w1 v.ownBlock→w1.heap[x]? =some (.cells #[.pointer (some ⟨x,0,none⟩),v,.int .i64 (st.inn:Int),.int .i64 (st.n:Int),.bool st.ok] 79 (0,0)):=fun w1 hg=>(hg.block x hx2 fun e=>h2.ne e.symm).trans h2.blk
 have H2:=Lib.hid h2;have S2:=Lib.hid s2;have Hfar:=Lib.hid hfar
 clear h2 s2 Hcall hfar
 go_wp2_with (at_builtin;refine wpList_append_str_at (w:=w2) rfl (.tmp 12) (.tmp 13) 75 9 rfl x 5 i0 Tryz.underlying75 Tryz.underlying9 hi hz0 hz1 hz2 v l.length (byteCells l) rfl hbuf s rfl (by unfold maxLen;omega) (by omega) (by omega) ?_;intro v' w5 hown5 hg5 hat5;obtain ⟨ao,cp,rfl⟩:∃ ao cp,v'= .slice ao (l.length+s.size) cp:=(by rcases hown5.2 with ⟨e,h0⟩ | ⟨g,cap,cur,e,_⟩;exact ⟨none,0,by rw [e,h0]⟩;exact ⟨_,_,e⟩);have hb5:=Hfar.out w5 hg5;have z1:=cell_of_blk (o:=1) hb5;have f1:=frozen_of_blk (o:=1) hb5;have zl:=lt_of_blk hb5)
 have hs2:=H2.out.setBuf hg5 (.slice ao (l.length+s.size) cp) (l ++ s.data.toList) (by
  have e1:(l ++ s.data.toList).length=l.length+s.size:=by rw [List.length_append];rfl
  have e2:byteCells (l ++ s.data.toList)=byteCells l ++ Lib.strCells s:=by unfold byteCells Lib.strCells;rw [List.map_append]
  rw [e1,e2];exact hown5) hat5
 have Hs2:=Lib.hid hs2
 clear hs2
 refine bodyPost_ret (results_tmp2 rfl _ _ _) rfl ?_
 have e3:({ st with len:=(l ++ s.data.toList).length }:WS)= { st with len:=st.len+s.size }:=by
  rw [List.length_append,Hl.out];rfl
 have hw:=Hs2.out.1
 rw [e3] at hw
 exact ⟨rfl,_,hw,S2.out.trans Hs2.out.2⟩
set_option maxRecDepth 100000 in
set_option maxHeartbeats 20000000 in
theorem bldLen_any {w:World} {x:Nat} {st:WS} {p v:Value} {l:List UInt8} (h:WrC w x st p v l):
 Calls Tryz.prog 34 #[.pointer (some ⟨x,0,none⟩)] w fun e w'=>e= .returned (.int .i64 (st.len:Int))∧w=w':=by
 have c1:=h.c1
 have hl:l.length=st.len:=h.len
 obtain ⟨ao,cp,rfl⟩:∃ ao cp,v= .slice ao st.len cp:=by
  rw [← hl]
  rcases h.buf.2 with ⟨e,h0⟩ | ⟨g,cap,cur,e,_⟩
  · exact ⟨none,0,by rw [e,h0]⟩
  · exact ⟨_,_,e⟩
 clear hl h
 go_enter Tryz.func34,Tryz.ntmps34
 go_wp2_with fail
 refine bodyPost_ret (results_tmp rfl _ _ _) rfl ?_
 exact ⟨rfl,rfl⟩
def StringPost (x:Nat) (w:World) (e:Ending) (w':World):Prop:=∃ s:ByteArray,e= .returned (.string s)∧Below x w w'
set_option maxRecDepth 100000 in
set_option maxHeartbeats 20000000 in
theorem bldString_any {w:World} {x:Nat} {st:WS} {p v:Value} {l:List UInt8} (h:WrC w x st p v l) (hlb:st.len≤6000):
 Calls Tryz.prog 35 #[.pointer (some ⟨x,0,none⟩)] w (StringPost x w):=by
 have c1:=h.c1
 have hl:l.length=st.len:=h.len
 have hx:=h.lt
 have u127:Tryz.prog.underlying 146=some (.pointer 5):=Tryz.underlying146
 by_cases h0:l= []
 · subst h0
   have hUS:∀ (p:Option Addr) (w:World),(Builtin.unsafeString_ #[146,3] 9 #[.pointer p,.int .i64 0]).run Tryz.prog w= .ok (.string .empty) w:=fun p w=>Lib.run_unsafeString_none w _ _ _ p
   rcases h.buf.2 with ⟨rfl,_⟩ | ⟨g,cap,cur,rfl,hxg,hg,_,hcm,hcs,htake⟩
   · have c2:w.drew.cell? ⟨x,1,none⟩=some (.slice none 0 0):=c1
     have hSD:∀ w,(Builtin.unsafeSliceData_ #[75] 146 #[.slice none 0 0]).run Tryz.prog w= .ok (.pointer none) w:=fun _=>rfl
     clear h hl
     go_enter Tryz.func35,Tryz.ntmps35
     go_wp2_with fail
     go_region
     all_goals
      go_wp2_with fail
      refine bodyPost_ret (results_tmp rfl _ _ _) rfl ?_
      exact ⟨_,rfl,(Below.refl _ _).drew⟩
   · by_cases hc0:cap=0
     · subst hc0
       have hSD:(Builtin.unsafeSliceData_ #[75] 146 #[.slice (some ⟨g,0,none⟩) 0 0]).run Tryz.prog w.drew= .ok (.pointer (some ⟨w.drew.heap.size,0,none⟩)) (w.drew.alloc (.view ⟨g,0,none⟩ 5)):=
        Lib.run_unsafeSliceData_zero w.drew _ _ 5 u127 ⟨g,0,none⟩ 0 (5,cur.size) (by have hg':w.drew.heap[g]? =some (.cells cur 5 (0,0)):=hg;simp [World.shape?,hg'])
       have c2:w.drew.cell? ⟨x,1,none⟩=some (.slice (some ⟨g,0,none⟩) 0 0):=c1
       have c3:(w.drew.alloc (.view ⟨g,0,none⟩ 5)).cell? ⟨x,1,none⟩=some (.slice (some ⟨g,0,none⟩) 0 0):=(World.cell?_of_block (Lib.alloc_old w.drew _ x hx)).trans c1
       have c4:(w.alloc (.view ⟨g,0,none⟩ 5)).drew.cell? ⟨x,1,none⟩=some (.slice (some ⟨g,0,none⟩) 0 0):=c3
       clear h hl hg htake hcs hcm
       go_enter Tryz.func35,Tryz.ntmps35
       go_wp2_with fail
       go_region
       all_goals
        go_wp2_with fail
        refine bodyPost_ret (results_tmp rfl _ _ _) rfl ?_
        exact ⟨_,rfl,((Below.refl _ _).drew).alloc (by simp;omega) _⟩
     · have c2:w.drew.cell? ⟨x,1,none⟩=some (.slice (some ⟨g,0,none⟩) 0 cap):=c1
       have hSD:(Builtin.unsafeSliceData_ #[75] 146 #[.slice (some ⟨g,0,none⟩) 0 cap]).run Tryz.prog w.drew= .ok (.pointer (some ⟨g,0,none⟩)) w.drew:=Lib.run_unsafeSliceData_row _ _ _ _ _ _ hc0
       clear h hl hg htake hcs hcm hc0
       go_enter Tryz.func35,Tryz.ntmps35
       go_wp2_with fail
       go_region
       all_goals
        go_wp2_with fail
        refine bodyPost_ret (results_tmp rfl _ _ _) rfl ?_
        exact ⟨_,rfl,(Below.refl _ _).drew⟩
 · have hl0:l.length≠0:=by simpa using h0
   obtain ⟨g,cap,cur,rfl,hxg,hg,hnc,hcm,hcs,htake⟩:∃ g cap cur,v= .slice (some ⟨g,0,none⟩) l.length cap∧x≤g∧w.heap[g]? =some (.cells cur 5 (0,0))∧l.length≤cap∧cap≤maxLen∧cur.size=cap * 1∧cur.toList.take (l.length * 1)=byteCells l:=by
    rcases h.buf.2 with ⟨_,hz⟩ | ⟨g,cap,cur,hv,r⟩
    · exact absurd hz hl0
    · exact ⟨g,cap,cur,hv,r⟩
   have c2:w.drew.cell? ⟨x,1,none⟩=some (.slice (some ⟨g,0,none⟩) l.length cap):=c1
   have hSD:(Builtin.unsafeSliceData_ #[75] 146 #[.slice (some ⟨g,0,none⟩) l.length cap]).run Tryz.prog w.drew= .ok (.pointer (some ⟨g,0,none⟩)) w.drew:=Lib.run_unsafeSliceData_row _ _ _ _ _ _ (by omega)
   have hUS:(Builtin.unsafeString_ #[146,3] 9 #[.pointer (some ⟨g,0,none⟩),.int .i64 l.length]).run Tryz.prog w.drew= .ok (.string ⟨l.toArray⟩) (w.drew.freeze ⟨g,0,none⟩ l.length):=by
    refine Lib.run_unsafeString_row w.drew 146 3 9 5 u127 Tryz.cellsByte g cur.size (by have hg':w.drew.heap[g]? =some (.cells cur 5 (0,0)):=hg;simp [World.shape?,hg']) l h0 (by omega) (by omega) ?_
    intro j c hc
    have:=h.buf.cells (g:=g) rfl j (.int .u8 c.toNat) (by simp [byteCells,hc])
    exact this
   have hB:Below x w (w.drew.freeze ⟨g,0,none⟩ l.length):=Lib.below_freeze ((Below.refl x w).drew) (p:=⟨g,0,none⟩) hxg _
   clear h hl hg htake hcs hcm h0 hl0 hnc
   go_enter Tryz.func35,Tryz.ntmps35
   go_wp2_with fail
   go_region
   all_goals
    go_wp2_with fail
    refine bodyPost_ret (results_tmp rfl _ _ _) rfl ?_
    exact ⟨_,rfl,hB⟩
end Go.Proofs.YtdoaeapahgmfoaaGreatDoor
namespace Go.Proofs.YtdoaeapahgmfoaaGreatDoor
open Go.RowKit
def OneLine (x:Nat) (w:World) (st:WS) (m:Nat) (e:Ending) (w':World):Prop:=
 ∃ (p v:Value) (l:List UInt8),e= .returned (.tuple #[])∧WrC w' x { st with len:=st.len+m } p v l∧WStp x w w'
theorem OneLine.post {x:Nat} {w:World} {st:WS} {m:Nat} {e:Ending} {w':World} (h:OneLine x w st m e w'):WrPost x w st 0 m (fun st'=>st'.ok=st.ok) e w':=by
 obtain ⟨p,v,l,h1,h2,h3⟩:=h
 exact ⟨{ st with len:=st.len+m },p,v,l,h1,⟨rfl,Nat.le_refl _,Nat.le_refl _,id⟩,rfl,h2,h3⟩
theorem rep_len (n:Nat):(Lib.repeatL [32,32,32,32] n).length=4 * n:=by
 rw [Lib.repeatL_length]
 show n * 4=4 * n
 omega
theorem rep_name (n:Nat):∃ R:ByteArray,R.size=4 * n∧R=⟨(Lib.repeatL (⟨#[32,32,32,32]⟩:ByteArray).data.toList n).toArray⟩:=by
 refine ⟨_,?_,rfl⟩
 show (Lib.repeatL [32,32,32,32] n).toArray.size=_
 rw [List.size_toArray];exact rep_len n
set_option maxRecDepth 100000 in
set_option maxHeartbeats 20000000 in
theorem wline_any {w:World} {x:Nat} {st:WS} {p v:Value} {l:List UInt8} (h:WrC w x st p v l) (s:ByteArray) (hin:st.inn≤2000000) (hsz:s.size≤2000000000) (hs:st.len≤90000000000000):
 Calls Tryz.prog 68 #[.pointer (some ⟨x,0,none⟩),.string s] w (OneLine x w st (4 * st.inn+s.size+1)):=by
 have c2:=h.c2
 have hx:=h.lt
 have Hh:=Lib.hid h
 clear h
 have hcW:∀ (w3:World),WrC w3 x st p v l→∀ R:ByteArray,R.size≤8000000→Calls Tryz.prog 57 #[.pointer (some ⟨x,0,none⟩),.string (R ++ s ++ { data:= #[10] })] w3 (WritePost x w3 st l (R ++ s ++ { data:= #[10] })):=fun w3 h3 R hR=>wwriteStr_any h3 _ (by
  rw [ByteArray.size_append,ByteArray.size_append]
  show st.len+(R.size+s.size+1)≤_
  omega)
 have HcW:=Lib.hid hcW
 clear hcW
 go_enter Tryz.func68,Tryz.ntmps68
 go_region_with
  ((first
    | (go_at_call 59;refine (Tryz.strings_Repeat ⟨#[32,32,32,32]⟩ st.inn _ (by omega) (by show 4 * st.inn≤_;omega)).mono ?_;rintro _ w3 ⟨rfl,hb3⟩;have h3:=Lib.hid (Hh.out.grow (((Below.refl _ _).drew).trans hb3));have c2:=h3.out.1.c2;obtain ⟨R,hR,hRe⟩:=rep_name st.inn;rw [← hRe];clear hRe;have hR2:R.size≤8000000:=(by omega);have HR:=Lib.hid hR;clear hR)
    | (go_at_call 57;(with_reducible refine (HcW.out _ h3.out.1 R hR2).mono ?_);rintro _ w4 ⟨rfl,v4,h4,s4⟩;have c4:w4.cell? ⟨x,2,none⟩=some (.int .i64 (st.inn:Int)):=h4.c2;have H4:=Lib.hid h4;have S4:=Lib.hid s4;clear h4 s4)))
 all_goals
  go_wp2_with fail
  go_end0
  have e1:st.len+(R ++ s ++ { data:= #[10] }:ByteArray).size=st.len+(4 * st.inn+s.size+1):=by
   rw [ByteArray.size_append,ByteArray.size_append,HR.out];rfl
  have hw:=H4.out
  rw [e1] at hw
  exact ⟨_,_,_,rfl,hw,h3.out.2.trans S4.out⟩
end Go.Proofs.YtdoaeapahgmfoaaGreatDoor

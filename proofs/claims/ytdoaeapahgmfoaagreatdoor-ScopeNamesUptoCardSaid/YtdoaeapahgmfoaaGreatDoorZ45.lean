/- scope.Scopes, the first loop: the cells and the free names. scope.Scopes, the second loop, in parts. -/
import Derived.Test.YtdoaeapahgmfoaaGreatDoorZ44
namespace Go.Proofs.YtdoaeapahgmfoaaGreatDoor
open Go.RowKit
def stepU (fr:List Fr) (c:CF) (i:Nat):CF:=((fr.getD i dfr).used ++ (fr.getD i dfr).nonl).foldl (useF fr i) c
def UF (fr:List Fr) (i:Nat):CF:=(List.range i).foldl (stepU fr) ⟨List.replicate fr.length [],List.replicate fr.length []⟩
theorem UF_succ (fr:List Fr) (i:Nat):UF fr (i+1)=stepU fr (UF fr i) i:=by
 unfold UF
 rw [List.range_succ,List.foldl_append]
 rfl
structure RI (fr:List Fr) (C:CF):Prop where
 lc:C.cells.length=fr.length
 lf:C.frees.length=fr.length
 c:RowsIn (allNames fr) C.cells
 f:RowsIn (allNames fr) C.frees
theorem rows_chain (fr:List Fr) (own:Nat) {n:List UInt8} (hn:n ∈ allNames fr):∀ (f k:Nat) (fs:List (List (List UInt8))),RowsIn (allNames fr) fs→RowsIn (allNames fr) (chainF f fr k own n fs)∧(chainF f fr k own n fs).length=fs.length
 | 0,_,_,h=>⟨h,rfl⟩
 | f+1,k,fs,h=>by
   unfold chainF
   split
   · exact ⟨h,rfl⟩
   · obtain ⟨h1,h2⟩:=rows_chain fr own hn f ((fr.getD k dfr).around.toNat) _ (h.mod k hn)
     exact ⟨h1,by rw [h2,List.length_modify]⟩
theorem RI.use {fr:List Fr} {C:CF} (h:RI fr C) (i:Nat) {n:List UInt8} (hn:n ∈ allNames fr):RI fr (useF fr i C n):=by
 unfold useF
 dsimp only
 split
 · exact h
 · obtain ⟨h1,h2⟩:=rows_chain fr (ownerF fr i n) hn (fr.length+1) i C.frees h.f
   exact ⟨by rw [List.length_modify];exact h.lc,by rw [h2];exact h.lf,h.c.mod _ hn,h1⟩
theorem RI.fold {fr:List Fr} (i:Nat):∀ (l:List (List UInt8)) (_:∀ n ∈ l,n ∈ allNames fr) (C:CF),RI fr C→RI fr (l.foldl (useF fr i) C)
 | [],_,_,h=>h
 | n :: r,hl,_,h=>RI.fold i r (fun m hm=>hl m (List.mem_cons_of_mem _ hm)) _ (h.use i (hl n List.mem_cons_self))
theorem UF_RI (fr:List Fr):∀ i,i≤fr.length→RI fr (UF fr i)
 | 0,_=>⟨by simp [UF],by simp [UF],rowsIn_nil _ _,rowsIn_nil _ _⟩
 | i+1,h=>by
   rw [UF_succ]
   exact RI.fold i _ (fun n hn=>mem_allNames (by omega) hn) _ (UF_RI fr i (by omega))
theorem Tryz.infoStrs:(Tryz.prog.info? 36).map (fun i=>(i.zero,i.size,i.bytes))=some (some (.slice none 0 0),1,24):=by kernel_rfl
theorem make_rows (n:Nat) (hn:n≤40000000) (w:World):(Instr.makeSlice 90 (.int .i64 (n:Int)) (.int .i64 (n:Int))).run Tryz.prog w= .ok (.slice (some ⟨w.heap.size,0,none⟩) n n) (w.alloc (.cells (madeCells #[.slice none 0 0] n) 36)):=
 run_make_row' 90 36 (.slice none 0 0) 24 Tryz.underlying90 Tryz.infoStrs rfl .i64 .i64 n (by omega) (by omega) w
theorem clone_any {w:World} {B:Nat} {v:Value} {l:List (List UInt8)} (h:w.ownsRow B 9 1 v l.length (strCs l)) (hl:l.length≤50000000):
 Calls Tryz.prog 38 #[v] w fun e w'=>∃ a c,e= .returned (.slice a l.length c)∧w'.ownsRow w.heap.size 9 1 (.slice a l.length c) l.length (strCs l)∧l.length≤c∧Below w.heap.size w w':=by
 rcases h.2 with ⟨rfl,h0⟩ | ⟨g,cap,cur,rfl,hB,hg,hn,hc,hsz,ht⟩
 · refine (Tryz.slices_Clone_string_nil 0 0 w).mono ?_
   rintro e w' ⟨rfl,rfl⟩
   have e0:l= []:=List.eq_nil_of_length_eq_zero h0
   subst e0
   exact ⟨none,0,rfl,World.ownsRow_nil _ _ _ _,Nat.le_refl _,Below.refl _ _⟩
 · have hcells:∀ j,j < (l.map toBA).length→w.cell? ⟨g,0+j,none⟩=some (.string ((l.map toBA).getD j ByteArray.empty)):=fun j hj=>by
    rw [List.length_map] at hj
    rw [Nat.zero_add,cell_of_blk hg]
    have h1:(cur.toList.take (l.length * 1))[j]? =(strCs l)[j]? :=by rw [ht]
    rw [List.getElem?_take_of_lt (by omega)] at h1
    rw [← Array.getElem?_toList,h1]
    simp [strCs,hj]
   refine (Tryz.slices_Clone_string g 0 l.length cap (l.map toBA) w (by simp) (by omega) hcells).mono ?_
   rintro e w' ⟨v',rfl,hown,_,hb⟩
   have e1:((l.map toBA).take l.length).map Value.string=strCs l:=by
    rw [List.take_of_length_le (by simp),List.map_map];rfl
   rw [e1] at hown
   obtain ⟨a,c,hv,hcc⟩:∃ a c,v'= .slice a l.length c∧l.length≤c:=by
    rcases hown.2 with ⟨e,h0⟩ | ⟨g',cap',_,e,_,_,h3,_⟩
    · exact ⟨none,0,by rw [e,h0],by omega⟩
    · exact ⟨_,_,e,h3⟩
   subst hv
   exact ⟨a,c,rfl,hown,hcc,hb⟩
theorem step_append_zero {ops:Array Oper} {o:Oper} {a:Act} {w:World} {K:Act→World→Prop} {Q:Exit→Act→World→Prop} {E:Prop} (hgd:o.guard=none) (s x:Operand)
 (ho:o.op= .call { callee:= .builtin .append,args:= #[s,x],argTypes:= #[36,36] }) (a0:Option Addr) (n cs:Nat) (hns:n≤cs) (ap:Option Addr) (cp:Nat) (hs:a.eval s= .slice a0 n cs) (hx:a.eval x= .slice ap 0 cp)
 (h:K (a.put o.dst (.slice a0 n cs)) w):if Region.wanted o (yielded ops a.tmps)=true then Oper.wp Tryz.prog o a w K Q else E:=by
 have hw:Region.wanted o (yielded ops a.tmps)=true:=by simp [Region.wanted,hgd]
 rw [if_pos hw]
 obtain ⟨i,hi,_,hsz,_⟩:=info_parts Tryz.infoStrg
 have hr:(Builtin.append_ #[36,36] o.type #[.slice a0 n cs,.slice ap 0 cp]).run Tryz.prog w= .ok (.slice a0 n cs) w:=by
  refine run_append_nothing w 36 36 o.type 9 i Tryz.underlying36 hi a0 n cs hns _ ?_
  rcases ap with _ | ad
  · exact Go.Src.ofNil w Tryz.underlying36 cp
  · exact Go.Src.ofSlice w Tryz.underlying36 ad 0 cp [] (by simp) (fun j u h=>by simp at h) (fun u h=>by simp at h)
 unfold Oper.wp execOp
 simp only [ho,resolve,invoke,builtin,Sem.run_bind,Sem.run_pure,Result.andThen_ok,List.map_toArray,List.map_cons,List.map_nil,hs,hx,hr]
 exact h
theorem row_slice {w:World} {B:Nat} {v:Value} {l:List (List UInt8)} (h:w.ownsRow B 9 1 v l.length (strCs l)):∃ a c,v= .slice a l.length c∧l.length≤c∧(0 < l.length→∃ b o,a=some ⟨b,o,none⟩∧(B≤b∧b < w.heap.size)∧∀ j (hj:j < l.length),w.cell? ⟨b,o+j,none⟩=some (.string (toBA l[j]))):=own_strs h
theorem useF_yes {fr:List Fr} {i:Nat} {C:CF} {n:List UInt8} {own:Nat} (ho:own=ownerF fr i n) (h0:own≠0) (h1:own≠i):useF fr i C n=⟨C.cells.modify own (addL · n),chainF (fr.length+1) fr i own n C.frees⟩:=by
 unfold useF
 dsimp only
 rw [← ho,if_neg (by omega)]
theorem useF_no {fr:List Fr} {i:Nat} {C:CF} {n:List UInt8} {own:Nat} (ho:own=ownerF fr i n) (h:own=0∨own=i):useF fr i C n=C:=by
 unfold useF
 dsimp only
 rw [← ho,if_pos h]
theorem chainF_stop (f:Nat) (fr:List Fr) (own:Nat) (n:List UInt8) (fs:List (List (List UInt8))):chainF f fr own own n fs=fs:=by
 cases f with
 | zero=>rfl
 | succ f=>unfold chainF;rw [if_pos rfl]
theorem chainF_step (f:Nat) (fr:List Fr) (k own:Nat) (n:List UInt8) (fs:List (List (List UInt8))) (h:k≠own):chainF (f+1) fr k own n fs=chainF f fr ((fr.getD k dfr).around.toNat) own n (fs.modify k (addL · n)):=by
 conv=>lhs;unfold chainF
 rw [if_neg h]
theorem owner_on {f:Nat} {fr:List Fr} {first:Int} {k own:Nat} {n:List UInt8} (ha:Arnd fr) (hk:k < fr.length) (h:ownerGo (f+1) fr first (k:Int) n=own) (h0:own≠0) (hne:k≠own):
 0 < k∧0≤(fr.getD k dfr).around∧(fr.getD k dfr).around < (k:Int)∧ownerGo f fr first (fr.getD k dfr).around n=own:=by
 have hk0:0 < k:=by
  rcases Nat.eq_zero_or_pos k with e | e
  · subst e
    rw [ownerGo_stop _ _ _ _ _ (by simp)] at h
    exact absurd h.symm h0
  · exact e
 obtain ⟨h1,h2⟩:=ha.lt k hk0 hk
 refine ⟨hk0,h1,h2,?_⟩
 rw [ownerGo_step f fr first k n hk0] at h
 split at h
 · exact absurd h.symm h0
 · split at h
   · exact absurd h hne
   · exact h
end Go.Proofs.YtdoaeapahgmfoaaGreatDoor
namespace Go.Proofs.YtdoaeapahgmfoaaGreatDoor
open Go.RowKit
theorem Tryz.infoScope:(Tryz.prog.info? 38).map (fun i=>(i.zero,i.size,i.bytes))=some (some (.agg #[.string ⟨#[]⟩,.int .i64 0,.int .i64 0,.slice none 0 0,.slice none 0 0,.slice none 0 0]),6,104):=by kernel_rfl
theorem sort_any {w:World} {B:Nat} {v:Value} {l:List (List UInt8)} (h:w.ownsRow B 9 1 v l.length (strCs l)) (hl:l.length≤50000000):
 Calls Tryz.prog 42 #[v] w fun e w'=>e= .returned (.tuple #[])∧w.grownBy w' v.ownBlock∧w'.ownsRow B 9 1 v (l.mergeSort leL).length (strCs (l.mergeSort leL)):=by
 have hlen:(l.mergeSort leL).length=l.length:=List.length_mergeSort l
 rcases h.2 with ⟨rfl,h0⟩ | ⟨g,cap,cur,rfl,hB,hg,hn,hc,hsz,ht⟩
 · refine (Tryz.slices_Sort_string_none none 0 w).mono ?_
   rintro e w' ⟨rfl,rfl⟩
   have e0:l= []:=List.eq_nil_of_length_eq_zero h0
   subst e0
   refine ⟨rfl,⟨rfl,rfl,rfl,Nat.le_refl _,fun _ _ _=>rfl⟩,?_⟩
   rw [show ([]:List (List UInt8)).mergeSort leL= [] from List.eq_nil_of_length_eq_zero hlen]
   exact World.ownsRow_nil _ _ _ _
 · have hH:Go.Sort.Holds Go.Proofs.encStr w g 0 l.toArray:=holds_of_block hg (by
    have:=ht
    rw [Nat.mul_one] at this
    exact this)
   refine (Tryz.slices_Sort_string g 0 cap l w hH (lt_of_blk hg) (by omega)).mono ?_
   rintro e w' ⟨rfl,n,os,rfl⟩
   have hos:=ownsRow_sorted (n:=n) (os:=os) (ts:=l.mergeSort leL) (ss:=l) hlen hB hg hn hc hsz
   refine ⟨rfl,grownBy_sorted _,?_⟩
   rw [hlen]
   exact hos
def locQ (i:Nat) (cs b:List (List UInt8)):List (List UInt8):=if i=0 then [] else b.filter fun n=> !cs.contains n
def celQ (i:Nat) (cs b:List (List UInt8)):List (List UInt8):=if i=0 then [] else b.filter fun n=>cs.contains n
theorem locQ_snoc (i:Nat) (cs b:List (List UInt8)) (q:Nat) (hq:q < b.length):locQ i cs (b.take (q+1))=locQ i cs (b.take q) ++ (if i=0 then [] else if cs.contains b[q] then [] else [b[q]]):=by
 unfold locQ
 rw [List.take_succ_eq_append_getElem hq]
 split
 · rfl
 · rw [List.filter_append]
   congr 1
   rcases h:cs.contains b[q] with _ | _
   · rw [List.filter_cons_of_pos (by rw [h];rfl)];rfl
   · rw [List.filter_cons_of_neg (by rw [h];decide)];rfl
theorem celQ_snoc (i:Nat) (cs b:List (List UInt8)) (q:Nat) (hq:q < b.length):celQ i cs (b.take (q+1))=celQ i cs (b.take q) ++ (if i=0 then [] else if cs.contains b[q] then [b[q]] else []):=by
 unfold celQ
 rw [List.take_succ_eq_append_getElem hq]
 split
 · rfl
 · rw [List.filter_append]
   congr 1
   rcases h:cs.contains b[q] with _ | _
   · rw [List.filter_cons_of_neg (by rw [h];decide)];rfl
   · rw [List.filter_cons_of_pos (by rw [h])];rfl
theorem locQ_len (i:Nat) (cs b:List (List UInt8)):(locQ i cs b).length≤b.length:=by
 unfold locQ
 split
 · exact Nat.zero_le _
 · exact List.length_filter_le _ _
theorem celQ_len (i:Nat) (cs b:List (List UInt8)):(celQ i cs b).length≤b.length:=by
 unfold celQ
 split
 · exact Nat.zero_le _
 · exact List.length_filter_le _ _
theorem scF_eq (fr:List Fr) (C:CF) (i:Nat):scF fr C i=⟨(fr.getD i dfr).around,(fr.getD i dfr).params,locQ i (C.cells.getD i []) (fr.getD i dfr).bound,celQ i (C.cells.getD i []) (fr.getD i dfr).bound,(C.frees.getD i []).mergeSort leL⟩:=rfl
structure KStp (cc:Cl2) (w w':World):Prop where
 os:w'.os=w.os
 tape:w'.tape=w.tape
 output:w'.output=w.output
 size:w.heap.size≤w'.heap.size
 keep:∀ b,b < w.heap.size→(∀ j,cc b≠some (2,j+1))→w'.heap[b]? =w.heap[b]?
theorem KStp.refl (cc:Cl2) (w:World):KStp cc w w:=⟨rfl,rfl,rfl,Nat.le_refl _,fun _ _ _=>rfl⟩
structure ScBx (wA w:World) (bs:Nat) (nm:ByteArray) (ar:Int) (pr:Nat) (ll lc:List (List UInt8)) (vL vC:Value):Prop where
 blk:w.heap[bs]? =some (.cells #[.string nm,.int .i64 ar,.int .i64 (pr:Int),vL,vC,.slice none 0 0] 38 (0,0))
 oL:w.ownsRow (bs+1) 9 1 vL ll.length (strCs ll)
 oC:w.ownsRow (bs+1) 9 1 vC lc.length (strCs lc)
 ne:∀ b,vL.ownBlock=some b→vC.ownBlock≠some b
 stp:YStp bs wA w
section
variable {wA w w1:World} {bs:Nat} {nm:ByteArray} {ar:Int} {pr:Nat} {ll lc:List (List UInt8)} {vL vC:Value}
theorem ScBx.putL (h:ScBx wA w bs nm ar pr ll lc vL vC) (hA:wA.heap.size=bs+1) {g cap:Nat} {n:List UInt8} {ob:Obj} (hg:(w.alloc ob).grownBy w1 vL.ownBlock) (hown:w1.ownsRow (bs+1) 9 1 (.slice (some ⟨g,0,none⟩) (ll.length+1) cap) (ll.length+1) (strCs ll ++ [.string (toBA n)]))
 (hat:vL.ownBlock=some g∨g=w.heap.size+1):ScBx wA (w1.setCell ⟨bs,3,none⟩ (.slice (some ⟨g,0,none⟩) (ll.length+1) cap)) bs nm ar pr (ll ++ [n]) lc (.slice (some ⟨g,0,none⟩) (ll.length+1) cap) vC:=by
 have hbs:=lt_of_blk h.blk
 have hgb:bs+1≤g:=(hown.lt g rfl).1
 have hn1:some bs≠vL.ownBlock:=fun e=>by have:=(h.oL.lt bs e.symm).1;omega
 have hk:∀ b,b < w.heap.size→some b≠vL.ownBlock→w1.heap[b]? =w.heap[b]? :=fun b hb hne=>(hg.block b (by simp;omega) hne).trans (Below.heap_alloc _ _ _ hb)
 have hCb:∀ b,vC.ownBlock=some b→w1.heap[b]? =w.heap[b]? :=fun b e=>hk b (h.oC.lt b e).2 fun e2=>h.ne b e2.symm e
 have hsz:=hg.size
 simp at hsz
 refine ⟨?_,?_,?_,fun b e=> ?_,?_⟩
 · exact heap_setCell_at (o:=3) ((hk bs hbs hn1).trans h.blk)
 · have:(ll ++ [n]).length=ll.length+1:=by simp
   rw [this,strCs_snoc]
   exact ownsRow_setCell hown (by intro e;have e1:g=bs:=Option.some.inj e;omega)
 · exact ownsRow_setCell (own_same h.oC hCb) (fun e=>by have:=(h.oC.lt bs e).1;omega)
 · have e1:g=b:=Option.some.inj e
   subst e1
   intro e2
   rcases hat with h1 | h1
   · exact h.ne g h1 e2
   · have:=(h.oC.lt g e2).2;omega
 · refine ⟨hg.os.trans h.stp.os,hg.tape.trans h.stp.tape,hg.output.trans h.stp.output,by have:=h.stp.size;simp;omega,fun b hb hne=> ?_⟩
   refine (Below.heap_setCell _ _ _ _ hne).trans ((hk b (by have:=h.stp.size;omega) fun e=> ?_).trans (h.stp.keep b hb hne))
   have:=(h.oL.lt b e.symm).1
   omega
theorem ScBx.putC (h:ScBx wA w bs nm ar pr ll lc vL vC) (hA:wA.heap.size=bs+1) {g cap:Nat} {n:List UInt8} {ob:Obj} (hg:(w.alloc ob).grownBy w1 vC.ownBlock) (hown:w1.ownsRow (bs+1) 9 1 (.slice (some ⟨g,0,none⟩) (lc.length+1) cap) (lc.length+1) (strCs lc ++ [.string (toBA n)]))
 (hat:vC.ownBlock=some g∨g=w.heap.size+1):ScBx wA (w1.setCell ⟨bs,4,none⟩ (.slice (some ⟨g,0,none⟩) (lc.length+1) cap)) bs nm ar pr ll (lc ++ [n]) vL (.slice (some ⟨g,0,none⟩) (lc.length+1) cap):=by
 have hbs:=lt_of_blk h.blk
 have hgb:bs+1≤g:=(hown.lt g rfl).1
 have hn1:some bs≠vC.ownBlock:=fun e=>by have:=(h.oC.lt bs e.symm).1;omega
 have hk:∀ b,b < w.heap.size→some b≠vC.ownBlock→w1.heap[b]? =w.heap[b]? :=fun b hb hne=>(hg.block b (by simp;omega) hne).trans (Below.heap_alloc _ _ _ hb)
 have hLb:∀ b,vL.ownBlock=some b→w1.heap[b]? =w.heap[b]? :=fun b e=>hk b (h.oL.lt b e).2 fun e2=>h.ne b e e2.symm
 have hsz:=hg.size
 simp at hsz
 refine ⟨?_,?_,?_,fun b e=> ?_,?_⟩
 · exact heap_setCell_at (o:=4) ((hk bs hbs hn1).trans h.blk)
 · exact ownsRow_setCell (own_same h.oL hLb) (fun e=>by have:=(h.oL.lt bs e).1;omega)
 · have:(lc ++ [n]).length=lc.length+1:=by simp
   rw [this,strCs_snoc]
   exact ownsRow_setCell hown (by intro e;have e1:g=bs:=Option.some.inj e;omega)
 · intro e2
   have e1:g=b:=Option.some.inj e2
   subst e1
   rcases hat with h1 | h1
   · exact h.ne g e h1
   · have:=(h.oL.lt g e).2;omega
 · refine ⟨hg.os.trans h.stp.os,hg.tape.trans h.stp.tape,hg.output.trans h.stp.output,by have:=h.stp.size;simp;omega,fun b hb hne=> ?_⟩
   refine (Below.heap_setCell _ _ _ _ hne).trans ((hk b (by have:=h.stp.size;omega) fun e=> ?_).trans (h.stp.keep b hb hne))
   have:=(h.oC.lt b e.symm).1
   omega
end
theorem ScBx.init {wr:World} {nm:ByteArray} {ar:Int} {pr:Nat}:ScBx (wr.alloc (.cells #[.string nm,.int .i64 ar,.int .i64 (pr:Int),.slice none 0 0,.slice none 0 0,.slice none 0 0] 38)) (wr.alloc (.cells #[.string nm,.int .i64 ar,.int .i64 (pr:Int),.slice none 0 0,.slice none 0 0,.slice none 0 0] 38)) wr.heap.size nm ar pr [] [] (.slice none 0 0) (.slice none 0 0):=
 ⟨heap_alloc_new wr _,World.ownsRow_nil _ _ _ _,World.ownsRow_nil _ _ _ _,(fun b e=>by cases e),YStp.refl _ _⟩
theorem KStp.below {cc:Cl2} {w w':World} {B t1 t2:Nat} {C:CF} {v1 v2:Nat→Value} (h:KStp cc w w') (ht:Tb2 w B t1 t2 cc C v1 v2) (hB:B≤w.heap.size):Below B w w':=
 ⟨h.os,h.tape,h.output,h.size,fun b hb=>h.keep b (by omega) fun j e=>by rw [ht.below hb] at e;cases e⟩
theorem strs_col {w:World} {B t1 t2 i:Nat} {cc:Cl2} {C:CF} {v1 v2:Nat→Value} (h:Tb2 w B t1 t2 cc C v1 v2) (hi:i < C.frees.length):StrsAt w (fun b=>cc b=some (2,i+1)) (v2 i) (C.frees.getD i []):=by
 have hcr:=h.b.cr i hi
 obtain ⟨a,c,hv,hc,hr⟩:=row_slice (h.b.own i hi)
 refine ⟨a,c,hv,hc,fun hp=> ?_⟩
 obtain ⟨b,o,ha,_,hz⟩:=hr hp
 exact ⟨b,o,ha,hcr b (by rw [hv,ha];rfl),hz⟩
structure DOk (W wc wr:World) (cc:Cl2) (vo:Value) (i:Nat) (D:Nat→Prop):Prop where
 own:∀ b,vo.ownBlock=some b→wc.heap.size≤b∧b < wr.heap.size
 d:∀ b,D b→W.heap.size≤b∧b < wr.heap.size∧vo.ownBlock≠some b∧(wc.heap.size≤b∨∃ j,j < i∧cc b=some (2,j+1))
def Dn (cc:Cl2) (D:Nat→Prop) (i bs S:Nat) (vo':Value):Nat→Prop:=fun b=>D b∨(bs≤b∧b < S∧vo'.ownBlock≠some b)∨cc b=some (2,i+1)
end Go.Proofs.YtdoaeapahgmfoaaGreatDoor

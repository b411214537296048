/- Tables of rows of texts (the cells, the free names): what they hold; a text more in a row. The scopes that are handed back, in plain words: each free name is a cell or free of the scope around; none is two of the three; the program has none; the free names are in order, each once. The finder's passes leave each frame's loops as they were. How long the rows of the cells and of the free names become. -/
import Derived.Deep.OwnRows
import Derived.Test.YtdoaeapahgmfoaaGreatDoorZ24
import Derived.Test.YtdoaeapahgmfoaaGreatDoorZ28
import Derived.Test.YtdoaeapahgmfoaaGreatDoorZ29
namespace Go.Proofs.YtdoaeapahgmfoaaGreatDoor
open Go.RowKit
def Cl2:=Nat→Option (Nat × Nat)
def Cl2.put (c:Cl2) (o:Option Nat) (r:Nat × Nat):Cl2:=fun b=>if o=some b then some r else c b
structure TbC (w:World) (B k t:Nat) (c:Cl2) (ls:List (List (List UInt8))) (vs:Nat→Value):Prop where
 row:w.rowIs t 36 ls.length vs
 ct:c t=some (k,0)
 own:∀ i,i < ls.length→w.ownsRow B 9 1 (vs i) (ls.getD i []).length (strCs (ls.getD i []))
 cr:∀ i,i < ls.length→∀ b,(vs i).ownBlock=some b→c b=some (k,i+1)
structure TStp (c c':Cl2) (w w':World):Prop where
 os:w'.os=w.os
 tape:w'.tape=w.tape
 output:w'.output=w.output
 size:w.heap.size≤w'.heap.size
 keep:∀ b,b < w.heap.size→c' b=c b∧(c b=none→w'.heap[b]? =w.heap[b]?)
theorem TStp.refl (c:Cl2) (w:World):TStp c c w w:=⟨rfl,rfl,rfl,Nat.le_refl _,fun _ _=>⟨rfl,fun _=>rfl⟩⟩
theorem TStp.trans {c1 c2 c3:Cl2} {a b d:World} (h:TStp c1 c2 a b) (k:TStp c2 c3 b d):TStp c1 c3 a d:=
 ⟨k.os.trans h.os,k.tape.trans h.tape,k.output.trans h.output,Nat.le_trans h.size k.size,fun n hn=>
   let h1:=h.keep n hn;let h2:=k.keep n (Nat.lt_of_lt_of_le hn h.size)
   ⟨h2.1.trans h1.1,fun e=>(h2.2 (h1.1.trans e)).trans (h1.2 e)⟩⟩
structure Tb2 (w:World) (B t1 t2:Nat) (c:Cl2) (C:CF) (v1 v2:Nat→Value):Prop where
 a:TbC w B 1 t1 c C.cells v1
 b:TbC w B 2 t2 c C.frees v2
 lo:∀ b r,c b=some r→B≤b∧b < w.heap.size
def Un2 (w:World) (c:Cl2):Nat→Prop:=fun b=>b < w.heap.size∧c b=none
theorem TStp.un {c c':Cl2} {w w':World} (h:TStp c c' w w') {b:Nat} (hb:Un2 w c b):Un2 w' c' b:=⟨Nat.lt_of_lt_of_le hb.1 h.size,((h.keep b hb.1).1).trans hb.2⟩
theorem TStp.blk {c c':Cl2} {w w':World} (h:TStp c c' w w') {b:Nat} (hb:Un2 w c b):w'.heap[b]? =w.heap[b]? :=(h.keep b hb.1).2 hb.2
theorem TStp.cell {c c':Cl2} {w w':World} (h:TStp c c' w w') {b o:Nat} (hb:Un2 w c b):w'.cell? ⟨b,o,none⟩=w.cell? ⟨b,o,none⟩:=World.cell?_of_block (h.blk hb)
theorem TStp.strs {c c':Cl2} {w w':World} (h:TStp c c' w w') {v:Value} {l:List (List UInt8)} (hs:StrsAt w (Un2 w c) v l):StrsAt w' (Un2 w' c') v l:=hs.mono (fun _ _ hb=>h.cell hb) fun _ hb=>h.un hb
section
variable {w w' w1:World} {B k t t1 t2:Nat} {c c':Cl2} {ls:List (List (List UInt8))} {vs v1 v2:Nat→Value} {C:CF}
theorem Tb2.fresh (h:Tb2 w B t1 t2 c C v1 v2) {b:Nat} (hb:w.heap.size≤b):c b=none:=by
 rcases e:c b with _ | r
 · rfl
 · have:=(h.lo b r e).2;omega
theorem Tb2.below (h:Tb2 w B t1 t2 c C v1 v2) {b:Nat} (hb:b < B):c b=none:=by
 rcases e:c b with _ | r
 · rfl
 · have:=(h.lo b r e).1;omega
theorem TStp.below (h:TStp c c' w w') (ht:Tb2 w B t1 t2 c C v1 v2) (hB:B≤w.heap.size):Below B w w':=
 ⟨h.os,h.tape,h.output,h.size,fun b hb=>(h.keep b (by omega)).2 (ht.below hb)⟩
theorem TbC.keep (h:TbC w B k t c ls vs) (hc:∀ b r,c b=some r→c' b=some r) (hb:∀ b i,c b=some (k,i)→w'.heap[b]? =w.heap[b]?):TbC w' B k t c' ls vs:=
 ⟨h.row.of_block (hb t 0 h.ct),hc _ _ h.ct,fun i hi=>own_same (h.own i hi) fun b e=>hb b _ (h.cr i hi b e),fun i hi b e=>hc _ _ (h.cr i hi b e)⟩
theorem Tb2.grow (h:Tb2 w B t1 t2 c C v1 v2) (hb:Below w.heap.size w w'):Tb2 w' B t1 t2 c C v1 v2∧TStp c c w w':=
 ⟨⟨h.a.keep (fun _ _ e=>e) fun b _ e=>hb.block b (h.lo b _ e).2,h.b.keep (fun _ _ e=>e) fun b _ e=>hb.block b (h.lo b _ e).2,fun b r e=>⟨(h.lo b r e).1,Nat.lt_of_lt_of_le (h.lo b r e).2 hb.size⟩⟩,
   hb.os,hb.tape,hb.output,hb.size,fun b hlt=>⟨rfl,fun _=>hb.block b hlt⟩⟩
theorem Tb2.same (h:Tb2 w B t1 t2 c C v1 v2) (hs:w.heap.size≤w'.heap.size) (hk:∀ b r,c b=some r→w'.heap[b]? =w.heap[b]?):Tb2 w' B t1 t2 c C v1 v2:=
 ⟨h.a.keep (fun _ _ e=>e) fun b _ e=>hk b _ e,h.b.keep (fun _ _ e=>e) fun b _ e=>hk b _ e,fun b r e=>⟨(h.lo b r e).1,Nat.lt_of_lt_of_le (h.lo b r e).2 hs⟩⟩
theorem getD_mod (fs:List (List (List UInt8))) (i j:Nat) (f:List (List UInt8)→List (List UInt8)) (hj:j < fs.length):(fs.modify i f).getD j []=if i=j then f (fs.getD j []) else fs.getD j []:=by
 rw [getD_modifyL]
 by_cases e:i=j <;> simp [e,hj]
theorem TbC.setRow (h:TbC w B k t c ls vs) (hlo:∀ b r,c b=some r→B≤b∧b < w.heap.size) (i:Nat) (hi:i < ls.length) (v':Value) (f:List (List UInt8)→List (List UInt8))
 (hg:w.grownBy w1 (vs i).ownBlock) (hown:w1.ownsRow B 9 1 v' (f (ls.getD i [])).length (strCs (f (ls.getD i [])))) (hat:v'.ownBlock=(vs i).ownBlock∨∀ b,v'.ownBlock=some b→w.heap.size≤b):
 TbC (w1.setCell ⟨t,i,none⟩ v') B k t (c.put v'.ownBlock (k,i+1)) (ls.modify i f) (fun j=>if j=i then v' else vs j)∧
  TStp c (c.put v'.ownBlock (k,i+1)) w (w1.setCell ⟨t,i,none⟩ v')∧
  (∀ b r,(c.put v'.ownBlock (k,i+1)) b=some r→B≤b∧b < (w1.setCell ⟨t,i,none⟩ v').heap.size)∧
  (∀ b r,c b=some r→(c.put v'.ownBlock (k,i+1)) b=some r)∧
  (∀ b r,c b=some r→r≠(k,0)→r≠(k,i+1)→(w1.setCell ⟨t,i,none⟩ v').heap[b]? =w.heap[b]?):=by
 have hcr:=h.cr i hi
 have hsz:w.heap.size≤(w1.setCell ⟨t,i,none⟩ v').heap.size:=by simpa using hg.size
 have hfr:∀ b,w.heap.size≤b→c b=none:=fun b hb=>by
  rcases e:c b with _ | r
  · rfl
  · have:=(hlo b r e).2;omega
 have hho:∀ b,v'.ownBlock=some b→c b=some (k,i+1)∨(w.heap.size≤b∧B≤b∧b < (w1.setCell ⟨t,i,none⟩ v').heap.size):=fun b e=>by
  have h3:=hown.lt b e
  rcases hat with h2 | h2
  · exact .inl (hcr b (h2.symm.trans e))
  · exact .inr ⟨h2 b e,h3.1,by simpa using h3.2⟩
 have c1:∀ b r,c b=some r→(c.put v'.ownBlock (k,i+1)) b=some r:=fun b r e=>by
  unfold Cl2.put
  split
  · rename_i h2
    rcases hho b h2 with h3 | h3
    · rw [h3] at e;exact e
    · rw [hfr b h3.1] at e;cases e
  · exact e
 have c2:∀ b r,(c.put v'.ownBlock (k,i+1)) b=some r→B≤b∧b < (w1.setCell ⟨t,i,none⟩ v').heap.size:=fun b r e=>by
  unfold Cl2.put at e
  split at e
  · rename_i h2
    rcases hho b h2 with h3 | h3
    · have:=hlo b _ h3;omega
    · exact h3.2
  · have:=hlo b _ e;omega
 have c3:∀ b,b < w.heap.size→(c.put v'.ownBlock (k,i+1)) b=c b:=fun b hb=>by
  unfold Cl2.put
  split
  · rename_i h2
    rcases hho b h2 with h3 | h3
    · exact h3.symm
    · omega
  · rfl
 have hkeep:∀ b r,c b=some r→r≠(k,0)→r≠(k,i+1)→(w1.setCell ⟨t,i,none⟩ v').heap[b]? =w.heap[b]? :=fun b r e n1 n2=>by
  rw [Below.heap_setCell _ _ _ _ (by intro e2;subst e2;rw [h.ct] at e;exact n1 (Option.some.inj e).symm)]
  refine hg.block b (hlo b r e).2 fun e2=> ?_
  rw [hcr b e2.symm] at e
  exact n2 (Option.some.inj e).symm
 have htl:=(hlo t _ h.ct).2
 have htv:v'.ownBlock≠some t:=fun e=>by
  rcases hho _ e with h2 | h2
  · rw [h.ct] at h2;cases h2
  · omega
 have ht1:w1.heap[t]? =w.heap[t]? :=hg.block _ htl fun e2=>by
  have:=hcr _ e2.symm
  rw [h.ct] at this;cases this
 refine ⟨⟨?_,c1 _ _ h.ct,fun j hj=> ?_,fun j hj b e=> ?_⟩,⟨hg.os,hg.tape,hg.output,hsz,fun b hb=>⟨c3 b hb,fun e=> ?_⟩⟩,c2,c1,hkeep⟩
 · rw [List.length_modify]
   exact (h.row.of_block ht1).set i v'
 · rw [List.length_modify] at hj
   rw [getD_mod _ _ _ _ hj]
   by_cases e:j=i
   · subst e
     rw [if_pos rfl,if_pos rfl]
     exact ownsRow_setCell hown htv
   · rw [if_neg e,if_neg (Ne.symm e)]
     refine own_same (h.own j hj) fun b e2=>hkeep b _ (h.cr j hj b e2) (by simp) ?_
     intro e3
     simp only [Prod.mk.injEq,Nat.add_right_cancel_iff,true_and] at e3
     exact e e3
 · rw [List.length_modify] at hj
   by_cases e3:j=i
   · subst e3
     rw [if_pos rfl] at e
     show (if v'.ownBlock=some b then some (k,j+1) else c b)=some (k,j+1)
     rw [if_pos e]
   · rw [if_neg e3] at e
     exact c1 _ _ (h.cr j hj b e)
 · rw [Below.heap_setCell _ _ _ _ (by intro e2;subst e2;rw [h.ct] at e;cases e)]
   refine hg.block b hb fun e2=> ?_
   rw [hcr b e2.symm] at e;cases e
theorem Tb2.setCell1 (h:Tb2 w B t1 t2 c C v1 v2) (i:Nat) (hi:i < C.cells.length) (v':Value) (f:List (List UInt8)→List (List UInt8))
 (hg:w.grownBy w1 (v1 i).ownBlock) (hown:w1.ownsRow B 9 1 v' (f (C.cells.getD i [])).length (strCs (f (C.cells.getD i [])))) (hat:v'.ownBlock=(v1 i).ownBlock∨∀ b,v'.ownBlock=some b→w.heap.size≤b):
 Tb2 (w1.setCell ⟨t1,i,none⟩ v') B t1 t2 (c.put v'.ownBlock (1,i+1)) ⟨C.cells.modify i f,C.frees⟩ (fun j=>if j=i then v' else v1 j) v2∧TStp c (c.put v'.ownBlock (1,i+1)) w (w1.setCell ⟨t1,i,none⟩ v'):=by
 obtain ⟨q1,q2,q3,q4,q5⟩:=h.a.setRow h.lo i hi v' f hg hown hat
 exact ⟨⟨q1,h.b.keep q4 fun b j e=>q5 b _ e (by simp) (by simp),q3⟩,q2⟩
theorem Tb2.setCell2 (h:Tb2 w B t1 t2 c C v1 v2) (i:Nat) (hi:i < C.frees.length) (v':Value) (f:List (List UInt8)→List (List UInt8))
 (hg:w.grownBy w1 (v2 i).ownBlock) (hown:w1.ownsRow B 9 1 v' (f (C.frees.getD i [])).length (strCs (f (C.frees.getD i [])))) (hat:v'.ownBlock=(v2 i).ownBlock∨∀ b,v'.ownBlock=some b→w.heap.size≤b):
 Tb2 (w1.setCell ⟨t2,i,none⟩ v') B t1 t2 (c.put v'.ownBlock (2,i+1)) ⟨C.cells,C.frees.modify i f⟩ v1 (fun j=>if j=i then v' else v2 j)∧TStp c (c.put v'.ownBlock (2,i+1)) w (w1.setCell ⟨t2,i,none⟩ v'):=by
 obtain ⟨q1,q2,q3,q4,q5⟩:=h.b.setRow h.lo i hi v' f hg hown hat
 exact ⟨⟨h.a.keep q4 fun b j e=>q5 b _ e (by simp) (by simp),q1,q3⟩,q2⟩
end
end Go.Proofs.YtdoaeapahgmfoaaGreatDoor
namespace Go.Proofs.YtdoaeapahgmfoaaGreatDoor
open Go.RowKit
def leL (x y:List UInt8):Bool:=decide (x≤y)
def scF (fr:List Fr) (c:CF) (i:Nat):Sc:=⟨(fr.getD i dfr).around,(fr.getD i dfr).params,
 if i=0 then [] else (fr.getD i dfr).bound.filter fun n=> !(c.cells.getD i []).contains n,
 if i=0 then [] else (fr.getD i dfr).bound.filter fun n=>(c.cells.getD i []).contains n,
 (c.frees.getD i []).mergeSort leL⟩
def scsF (fr:List Fr):List Sc:=(List.range fr.length).map (scF fr (usesF fr))
theorem scsF_len (fr:List Fr):(scsF fr).length=fr.length:=by simp [scsF]
theorem scsF_at (fr:List Fr) (i:Nat) (hi:i < (scsF fr).length):(scsF fr)[i]=scF fr (usesF fr) i:=by simp [scsF]
theorem filter_ren (l c:List (List UInt8)) (b:Bool):(l.map qn).filter (fun n=>(c.map qn).contains n == b)=(l.filter fun n=>c.contains n == b).map qn:=by
 induction l with
 | nil=>rfl
 | cons a r ih=>
   simp only [List.map_cons,List.filter_cons,has_ren]
   split
   · rw [ih];rfl
   · exact ih
theorem getD_mapq (l:List (List (List UInt8))) (i:Nat):(l.map (·.map qn)).getD i []=(l.getD i []).map qn:=by
 rw [List.getD_eq_getElem?_getD,List.getD_eq_getElem?_getD,List.getElem?_map]
 rcases l[i]? with _ | x <;> rfl
theorem sc_ren (fr:List Fr) (c:CF) (i:Nat):(scF (fr.map Fr.ren) c.ren i).around=(scF fr c i).around∧(scF (fr.map Fr.ren) c.ren i).params=(scF fr c i).params∧
 (scF (fr.map Fr.ren) c.ren i).locals=(scF fr c i).locals.map qn∧(scF (fr.map Fr.ren) c.ren i).cells=(scF fr c i).cells.map qn∧(scF (fr.map Fr.ren) c.ren i).frees.length=(scF fr c i).frees.length:=by
 unfold scF
 rw [frAt_ren]
 refine ⟨rfl,rfl,?_,?_,?_⟩
 · dsimp only
   split
   · rfl
   · have h:=filter_ren (fr.getD i dfr).bound (c.cells.getD i []) false
     have e:∀ x:Bool,(x == false)= !x:=by decide
     simp only [e] at h
     show ((fr.getD i dfr).bound.map qn).filter (fun n=> !((c.cells.map (·.map qn)).getD i []).contains n)=_
     rw [getD_mapq]
     exact h
 · dsimp only
   split
   · rfl
   · have h:=filter_ren (fr.getD i dfr).bound (c.cells.getD i []) true
     have e:∀ x:Bool,(x == true)=x:=by decide
     simp only [e] at h
     show ((fr.getD i dfr).bound.map qn).filter (fun n=>((c.cells.map (·.map qn)).getD i []).contains n)=_
     rw [getD_mapq]
     exact h
 · dsimp only
   rw [List.length_mergeSort,List.length_mergeSort]
   show ((c.frees.map (·.map qn)).getD i []).length=_
   rw [getD_mapq,List.length_map]
theorem scs_ren (fr:List Fr) (i:Nat):(scF (fr.map Fr.ren) (usesF (fr.map Fr.ren)) i).around=(scF fr (usesF fr) i).around∧(scF (fr.map Fr.ren) (usesF (fr.map Fr.ren)) i).params=(scF fr (usesF fr) i).params∧
 (scF (fr.map Fr.ren) (usesF (fr.map Fr.ren)) i).locals=(scF fr (usesF fr) i).locals.map qn∧(scF (fr.map Fr.ren) (usesF (fr.map Fr.ren)) i).cells=(scF fr (usesF fr) i).cells.map qn∧(scF (fr.map Fr.ren) (usesF (fr.map Fr.ren)) i).frees.length=(scF fr (usesF fr) i).frees.length:=by
 rw [uses_ren];exact sc_ren fr (usesF fr) i
end Go.Proofs.YtdoaeapahgmfoaaGreatDoor
namespace Go.Proofs.YtdoaeapahgmfoaaGreatDoor
open Go.RowKit
structure KL (d d':Fd):Prop where
 len:d.fr.length≤d'.fr.length
 lp:∀ j,j < d.fr.length→(d'.fr.getD j dfr).loops=(d.fr.getD j dfr).loops
theorem KL.refl (d:Fd):KL d d:=⟨Nat.le_refl _,fun _ _=>rfl⟩
theorem KL.trans {a b c:Fd} (h:KL a b) (k:KL b c):KL a c:=⟨Nat.le_trans h.len k.len,fun j hj=>(k.lp j (Nat.lt_of_lt_of_le hj h.len)).trans (h.lp j hj)⟩
theorem kl_fold {α :Type} (f:Fd→ α →Fd) (l:List α) (hf:∀ d a,a ∈ l→KL d (f d a)):∀ d,KL d (l.foldl f d):=by
 induction l with
 | nil=>intro d;exact KL.refl d
 | cons a r ih=>intro d;exact (hf d a List.mem_cons_self).trans (ih (fun d b hb=>hf d b (List.mem_cons_of_mem _ hb)) _)
theorem kl_fail (d:Fd) (b:Bool):KL d (d.failIf b):=⟨by rw [fail_fr];exact Nat.le_refl _,fun j _=>by rw [fail_fr]⟩
theorem setF_len (d:Fd) (i:Nat) (f:Fr→Fr):(d.set i f).fr.length=d.fr.length:=by simp [Fd.set]
theorem setF_at (d:Fd) (i j:Nat) (f:Fr→Fr) (hj:j < d.fr.length):(d.set i f).fr.getD j dfr=if i=j then f (d.fr.getD j dfr) else d.fr.getD j dfr:=by
 show (d.fr.modify i f).getD j dfr=_
 rw [getD_modify]
 by_cases e:i=j <;> simp [e,hj]
theorem setF_congr (d:Fd) (i:Nat) (f g:Fr→Fr) (h:f (d.fr.getD i dfr)=g (d.fr.getD i dfr)):d.set i f=d.set i g:=by
 have e:d.fr.modify i f=d.fr.modify i g:=by
  apply List.ext_getElem?
  intro k
  rw [List.getElem?_modify,List.getElem?_modify]
  by_cases e:i=k
  · subst e
    rw [List.getD_eq_getElem?_getD] at h
    rcases h2:d.fr[i]? with _ | v
    · rfl
    · rw [h2] at h
      simp only [Option.getD_some] at h
      simp [h]
  · simp [e]
 unfold Fd.set
 rw [e]
theorem kl_set (d:Fd) (i:Nat) (f:Fr→Fr) (hf:∀ x,(f x).loops=x.loops):KL d (d.set i f):=by
 refine ⟨by rw [setF_len];exact Nat.le_refl _,fun j hj=> ?_⟩
 rw [setF_at d i j f hj]
 split
 · exact hf _
 · rfl
theorem kl_open (d:Fd) (a:Int) (ps:List (List UInt8)):KL d (d.open_ a ps):=by
 refine ⟨by rw [open_len];omega,fun j hj=> ?_⟩
 show (((openP d [] ps).fr ++ [_]).getD j dfr).loops=_
 rw [openP_fr,getD_snoc,if_neg (by omega)]
theorem kl_bind (d:Fd) (i:Nat) (n:List UInt8):KL d (d.bind i n):=by
 unfold Fd.bind
 split
 · exact KL.refl _
 · exact kl_set _ _ _ fun _=>rfl
theorem kl_term:∀ (f:Nat) (e:Ex) (i:Nat) (d:Fd),KL d (termF f e i d)
 | 0,_,_,d=>KL.refl d
 | f+1,e,i,d=>by
   unfold termF
   dsimp only
   have h1:KL d (if e.op=oName then d.set i (fun x=> { x with used:=addL x.used e.s }) else d):=by
    split
    · exact kl_set _ _ _ fun _=>rfl
    · exact KL.refl _
   refine h1.trans ?_
   generalize (if e.op=oName then d.set i (fun x=> { x with used:=addL x.used e.s }) else d)=d1
   split
   · exact (kl_open _ _ _).trans (kl_fold _ _ (fun d a _=>kl_term f a _ d) _)
   · exact kl_fold _ _ (fun d a _=>kl_term f a _ d) _
theorem kl_said (i:Nat) (g:Bool) (ps:List (List UInt8)) (d:Fd):KL d (saidF d i g ps):=by
 unfold saidF
 refine kl_fold _ _ (fun d n _=> ?_) _
 dsimp only
 split
 · exact (kl_fail d _).trans (kl_set _ _ _ fun _=>rfl)
 · exact (kl_fail d _).trans (kl_set _ _ _ fun _=>rfl)
theorem kl_head (s:Stm) (i:Nat) (d:Fd):KL d (headF s i d):=by
 rw [headF_eq]
 have h1:KL d { d with stmt:=d.stmt+1 }:=⟨Nat.le_refl _,fun _ _=>rfl⟩
 refine h1.trans ?_
 generalize ({ d with stmt:=d.stmt+1 }:Fd)=d1
 have h2:KL d1 (kindF1 s i d1):=by
  unfold kindF1
  split
  · exact kl_fail _ _
  · split
    · exact kl_fail _ _
    · split
      · exact (kl_fail _ _).trans (kl_said _ _ _ _)
      · exact KL.refl _
 refine h2.trans ?_
 refine (kl_fold _ s.l (fun d a _=>kl_term a.nodes a i d) _).trans ?_
 unfold kindF2
 split
 · exact kl_bind _ _ _
 · exact KL.refl _
theorem kl_block:∀ (f:Nat) (l:List Stm) (i:Nat) (d:Fd),KL d (blockF f l i d)
 | 0,_,_,d=>KL.refl d
 | f+1,l,i,d=>by
   rw [blockF_eq]
   refine kl_fold _ l (fun d s _=> ?_) d
   refine (kl_head s i d).trans ?_
   generalize headF s i d=d1
   unfold kindF3
   split
   · have h:=kl_block f s.body i (d1.set i fun x=> { x with loops:=x.loops+1 })
     refine ⟨by have:=h.len;rw [setF_len] at this ⊢;exact this,fun j hj=> ?_⟩
     have hl:=h.len
     rw [setF_len] at hl
     have h2:=h.lp j (by rw [setF_len];exact hj)
     rw [setF_at _ _ _ _ hj] at h2
     rw [setF_at _ _ _ _ (Nat.lt_of_lt_of_le hj hl)]
     by_cases e:i=j
     · rw [if_pos e] at h2 ⊢
       show _ - 1=_
       rw [h2]
       exact Nat.add_sub_cancel _ _
     · rw [if_neg e] at h2 ⊢
       exact h2
   · split
     · exact (kl_open _ _ _).trans (kl_block f s.body _ _)
     · refine (kl_block f s.body i d1).trans ?_
       refine KL.trans ?_ (kl_block f s.els i _)
       split
       · exact kl_bind _ _ _
       · exact KL.refl _
theorem sm_loops {d:Fd} {N:Nat} (h:Sm d N) (i:Nat):Sm (d.set i fun x=> { x with loops:=x.loops+1 }) (N+1):=h.set (by omega) i _ (fun k=>by
 have:=h.row i k
 match k with
 | 0=>exact Nat.le_succ_of_le this
 | 1=>exact Nat.le_succ_of_le this
 | 2=>exact Nat.le_succ_of_le this
 | _+3=>exact Nat.le_succ_of_le this) (by have:=h.loops i;show _+1≤_;omega)
end Go.Proofs.YtdoaeapahgmfoaaGreatDoor
namespace Go.Proofs.YtdoaeapahgmfoaaGreatDoor
open Go.RowKit
theorem nodup_le:∀ {l L:List (List UInt8)},l.Nodup→(∀ m ∈ l,m ∈ L)→l.length≤L.length
 | [],_,_,_=>Nat.zero_le _
 | a :: r,L,h,hs=>by
   have ha:a ∈ L:=hs a List.mem_cons_self
   have h1:=List.nodup_cons.1 h
   have h2:r.length≤(L.erase a).length:=nodup_le h1.2 fun m hm=>by
    have hne:m≠a:=fun e=>h1.1 (e ▸ hm)
    exact (List.mem_erase_of_ne hne).2 (hs m (List.mem_cons_of_mem _ hm))
   have h3:=List.length_erase_of_mem ha
   have h4:0 < L.length:=List.length_pos_of_mem ha
   simp only [List.length_cons];omega
def RowsIn (L:List (List UInt8)) (fs:List (List (List UInt8))):Prop:=∀ j,(fs.getD j []).Nodup∧∀ m ∈ fs.getD j [],m ∈ L
theorem RowsIn.len {L:List (List UInt8)} {fs:List (List (List UInt8))} (h:RowsIn L fs) (j:Nat):(fs.getD j []).length≤L.length:=nodup_le (h j).1 (h j).2
theorem RowsIn.mod {L:List (List UInt8)} {fs:List (List (List UInt8))} (h:RowsIn L fs) (k:Nat) {n:List UInt8} (hn:n ∈ L):RowsIn L (fs.modify k (addL · n)):=fun j=>by
 rw [getD_modifyL]
 split
 · refine ⟨nodup_addL (h j).1,fun m hm=> ?_⟩
   rcases mem_addL.1 hm with h1 | h1
   · exact (h j).2 m h1
   · rw [h1];exact hn
 · exact h j
theorem rowsIn_nil (L:List (List UInt8)) (n:Nat):RowsIn L (List.replicate n []):=fun j=>by
 have e:(List.replicate n ([]:List (List UInt8))).getD j []= []:=by
  rw [List.getD_eq_getElem?_getD,List.getElem?_replicate]
  split <;> rfl
 rw [e]
 exact ⟨List.nodup_nil,fun m hm=>by cases hm⟩
def allNames (fr:List Fr):List (List UInt8):=(fr.map fun x=>x.used ++ x.nonl).flatten
theorem mem_allNames {fr:List Fr} {i:Nat} (hi:i < fr.length) {m:List UInt8} (hm:m ∈ (fr.getD i dfr).used ++ (fr.getD i dfr).nonl):m ∈ allNames fr:=by
 refine List.mem_flatten.2 ⟨_,List.mem_map.2 ⟨fr.getD i dfr,?_,rfl⟩,hm⟩
 rw [List.getD_eq_getElem?_getD,List.getElem?_eq_getElem hi]
 exact List.getElem_mem hi
def tot (fr:List Fr):Nat:=(fr.map fun x=>x.used.length+x.nonl.length).sum
theorem allNames_len (fr:List Fr):(allNames fr).length=tot fr:=by
 unfold allNames tot
 induction fr with
 | nil=>rfl
 | cons x r ih=>simp only [List.map_cons,List.flatten_cons,List.length_append,List.sum_cons,ih]
theorem tot_modify (f:Fr→Fr) (k:Nat) (hf:∀ x,(f x).used.length+(f x).nonl.length≤x.used.length+x.nonl.length+k):∀ (fr:List Fr) (i:Nat),tot (fr.modify i f)≤tot fr+k
 | [],i=>by cases i <;> simp [tot]
 | x :: r,0=>by
   have:=hf x
   simp only [List.modify_zero_cons,tot,List.map_cons,List.sum_cons];omega
 | x :: r,i+1=>by
   have h:=tot_modify f k hf r i
   simp only [tot] at h
   simp only [List.modify_succ_cons,tot,List.map_cons,List.sum_cons];omega
theorem tot_set (d:Fd) (i k:Nat) (f:Fr→Fr) (hf:∀ x,(f x).used.length+(f x).nonl.length≤x.used.length+x.nonl.length+k):tot (d.set i f).fr≤tot d.fr+k:=tot_modify f k hf d.fr i
theorem tot_open (d:Fd) (a:Int) (ps:List (List UInt8)):tot (d.open_ a ps).fr=tot d.fr:=by
 show tot ((openP d [] ps).fr ++ [_])=_
 rw [openP_fr]
 simp [tot]
theorem tot_bind (d:Fd) (i:Nat) (n:List UInt8):tot (d.bind i n).fr≤tot d.fr:=by
 unfold Fd.bind
 split
 · exact Nat.le_refl _
 · exact tot_set d i 0 _ fun _=>Nat.le_refl _
theorem tot_exs (f:Fd→Ex→Fd):∀ (l:List Ex) (_:∀ e ∈ l,∀ d,tot (f d e).fr≤tot d.fr+e.bulk) (d:Fd),tot (l.foldl f d).fr≤tot d.fr+exsBulk l
 | [],_,_=>Nat.le_refl _
 | e :: r,hf,d=>by
   have h1:=hf e List.mem_cons_self d
   have h2:=tot_exs f r (fun a ha=>hf a (List.mem_cons_of_mem _ ha)) (f d e)
   simp only [List.foldl_cons,exsBulk];omega
theorem tot_stms (f:Fd→Stm→Fd):∀ (l:List Stm) (_:∀ e ∈ l,∀ d,tot (f d e).fr≤tot d.fr+e.bulk) (d:Fd),tot (l.foldl f d).fr≤tot d.fr+stmsBulk l
 | [],_,_=>Nat.le_refl _
 | e :: r,hf,d=>by
   have h1:=hf e List.mem_cons_self d
   have h2:=tot_stms f r (fun a ha=>hf a (List.mem_cons_of_mem _ ha)) (f d e)
   simp only [List.foldl_cons,stmsBulk];omega
theorem tot_term:∀ (f:Nat) (e:Ex) (i:Nat) (d:Fd),tot (termF f e i d).fr≤tot d.fr+e.bulk
 | 0,_,_,_=>Nat.le_add_right _ _
 | f+1,e,i,d=>by
   have hb:=Ex.bulk_eq e
   unfold termF
   dsimp only
   have h1:tot (if e.op=oName then d.set i (fun x=> { x with used:=addL x.used e.s }) else d).fr≤tot d.fr+1:=by
    split
    · exact tot_set d i 1 _ fun x=>by have:=addL_len x.used e.s;show (addL x.used e.s).length+x.nonl.length≤_;omega
    · exact Nat.le_succ _
   generalize (if e.op=oName then d.set i (fun x=> { x with used:=addL x.used e.s }) else d)=d1 at h1 ⊢
   split
   · have h2:=tot_exs (fun a e=>termF f e d1.fr.length a) e.l (fun a _ d=>tot_term f a _ d) (d1.open_ i e.p)
     rw [tot_open] at h2
     omega
   · have h2:=tot_exs (fun a e=>termF f e i a) e.l (fun a _ d=>tot_term f a _ d) d1
     omega
theorem tot_fail (d:Fd) (b:Bool):tot (d.failIf b).fr=tot d.fr:=by rw [fail_fr]
theorem tot_said (i:Nat) (g:Bool):∀ (ps:List (List UInt8)) (d:Fd),tot (saidF d i g ps).fr≤tot d.fr+ps.length
 | [],_=>Nat.le_refl _
 | n :: r,d=>by
   unfold saidF
   simp only [List.foldl_cons,List.length_cons]
   refine Nat.le_trans (tot_said i g r _) ?_
   have h:∀ b:Bool,tot (if g then (d.failIf b).set i (fun x=> { x with glob:=x.glob ++ [n] }) else (d.failIf b).set i (fun x=> { x with nonl:=x.nonl ++ [n] })).fr≤tot d.fr+1:=fun b=>by
    split
    · have:=tot_set (d.failIf b) i 0 (fun x=> { x with glob:=x.glob ++ [n] }) fun _=>Nat.le_refl _
      rw [tot_fail] at this;omega
    · have:=tot_set (d.failIf b) i 1 (fun x=> { x with nonl:=x.nonl ++ [n] }) fun x=>by show x.used.length+(x.nonl ++ [n]).length≤_;simp;omega
      rw [tot_fail] at this;omega
   have:=h ((d.at_ i).bound.contains n || (d.at_ i).used.contains n || (d.at_ i).glob.contains n || (d.at_ i).nonl.contains n)
   omega
theorem tot_head (s:Stm) (i:Nat) (d:Fd):tot (headF s i d).fr≤tot d.fr+s.p.length+exsBulk s.l:=by
 rw [headF_eq]
 have h0:tot ({ d with stmt:=d.stmt+1 }:Fd).fr=tot d.fr:=rfl
 generalize ({ d with stmt:=d.stmt+1 }:Fd)=d1 at h0 ⊢
 have h1:tot (kindF1 s i d1).fr≤tot d1.fr+s.p.length:=by
  unfold kindF1
  split
  · rw [tot_fail];omega
  · split
    · rw [tot_fail];omega
    · split
      · have:=tot_said i (decide (s.kind=sGlobal)) s.p (d1.failIf (decide (i=0)))
        rw [tot_fail] at this;exact this
      · omega
 have h2:=tot_exs (fun a e=>termF e.nodes e i a) s.l (fun a _ d=>tot_term a.nodes a i d) (kindF1 s i d1)
 generalize s.l.foldl (fun a e=>termF e.nodes e i a) (kindF1 s i d1)=d2 at h2 ⊢
 unfold kindF2
 split
 · have:=tot_bind d2 i s.name;omega
 · omega
theorem tot_block:∀ (f:Nat) (l:List Stm) (i:Nat) (d:Fd),tot (blockF f l i d).fr≤tot d.fr+stmsBulk l
 | 0,_,_,_=>Nat.le_add_right _ _
 | f+1,l,i,d=>by
   rw [blockF_eq]
   refine tot_stms _ l (fun s _ d=> ?_) d
   have hb:=Stm.bulk_eq s
   have hp:=strsBulk_len s.p
   have hh:=tot_head s i d
   generalize headF s i d=d1 at hh ⊢
   unfold kindF3
   split
   · have h1:=tot_set d1 i 0 (fun x=> { x with loops:=x.loops+1 }) fun _=>Nat.le_refl _
     have h2:=tot_block f s.body i (d1.set i fun x=> { x with loops:=x.loops+1 })
     have h3:=tot_set (blockF f s.body i (d1.set i fun x=> { x with loops:=x.loops+1 })) i 0 (fun x=> { x with loops:=x.loops - 1 }) fun _=>Nat.le_refl _
     omega
   · split
     · have h2:=tot_block f s.body d1.fr.length (d1.open_ i s.p)
       rw [tot_open] at h2;omega
     · have h2:=tot_block f s.body i d1
       have h3:tot (if s.kind=sTry then (blockF f s.body i d1).bind i s.name else blockF f s.body i d1).fr≤tot (blockF f s.body i d1).fr:=by
        split
        · exact tot_bind _ _ _
        · exact Nat.le_refl _
       have h4:=tot_block f s.els i (if s.kind=sTry then (blockF f s.body i d1).bind i s.name else blockF f s.body i d1)
       omega
theorem allNames_first (ss:List Stm):(allNames (firstF ss).fr).length≤stmsBulk ss:=by
 rw [allNames_len]
 have h:=tot_block (stmsNodes ss+1) ss 0 (Fd.open_ ⟨[],-1,[]⟩ (-1) [])
 rw [tot_open] at h
 have e:tot (⟨[],-1,[]⟩:Fd).fr=0:=rfl
 rw [e,Nat.zero_add] at h
 exact h
end Go.Proofs.YtdoaeapahgmfoaaGreatDoor

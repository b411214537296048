/- The finder of scopes in memory: its block, its frames, their rows; who owns which block (a colour); what a step leaves alone. scope.add, finder.fail, finder.bind: the walks. -/
import Derived.Deep.DrawnRows
import Derived.Test.YtdoaeapahgmfoaaGreatDoorZ12
import Derived.Test.YtdoaeapahgmfoaaGreatDoorZ28
namespace Go.Proofs.YtdoaeapahgmfoaaGreatDoor
open Go.RowKit
inductive Rl where
 | fin
 | lrow
 | brow
 | fr (i:Nat)
 | row (i k:Nat)
 deriving DecidableEq
def Clr:=Nat→Option Rl
def Clr.put (c:Clr) (o:Option Nat) (r:Rl):Clr:=fun b=>if o=some b then some r else c b
def strCs (l:List (List UInt8)):List Value:=l.map fun s=>Value.string (toBA s)
theorem strCs_snoc (l:List (List UInt8)) (s:List UInt8):strCs (l ++ [s])=strCs l ++ [.string (toBA s)]:=by simp [strCs]
def intCs (l:List Int):List Value:=l.map fun n=>Value.int .i64 n
def ptrCs (l:List Nat):List Value:=l.map fun y=>Value.pointer (some ⟨y,0,none⟩)
def frCells (nm:ByteArray) (x:Fr) (vs:Nat→Value):Array Value:= #[.string nm,.int .i64 x.around,.int .i64 (x.params:Int),.slice none 0 0,.slice none 0 0,.slice none 0 0,vs 0,vs 1,vs 2,vs 3,.int .i64 (x.loops:Int)]
structure FrC (w:World) (c:Clr) (B i y:Nat) (x:Fr) (vs:Nat→Value):Prop where
 blk:∃ nm,w.heap[y]? =some (.cells (frCells nm x vs) 97 (0,0))
 cy:c y=some (.fr i)
 own:∀ k,k < 4→w.ownsRow B 9 1 (vs k) (x.row k).length (strCs (x.row k))
 cr:∀ k,k < 4→∀ b,(vs k).ownBlock=some b→c b=some (.row i k)
structure FdC (w:World) (x:Nat) (c:Clr) (B:Nat) (d:Fd) (m:Nat) (vl vb:Value) (ys:List Nat) (vss:Nat→Nat→Value):Prop where
 blk:w.heap[x]? =some (.cells #[vl,.int .i64 d.stmt,vb] 94 (0,0))
 cx:c x=some .fin
 lown:w.ownsRow B 95 1 vl m (ptrCs (ys.take m))
 hm:m≤d.fr.length
 lc:∀ b,vl.ownBlock=some b→c b=some .lrow
 bown:w.ownsRow B 3 1 vb d.bad.length (intCs d.bad)
 bc:∀ b,vb.ownBlock=some b→c b=some .brow
 len:ys.length=d.fr.length
 frs:∀ i,i < d.fr.length→FrC w c B i (ys.getD i 0) (d.fr.getD i dfr) (vss i)
 lo:∀ b r,c b=some r→B≤b∧b < w.heap.size
 one:∀ b i,c b=some (.fr i)→i < d.fr.length∧ys.getD i 0=b
theorem put_fr {c:Clr} {o:Option Nat} {r:Rl} (hr:∀ i,r≠ .fr i) {b i:Nat} (h:c.put o r b=some (.fr i)):c b=some (.fr i):=by
 unfold Clr.put at h
 split at h
 · exact absurd (Option.some.inj h) (hr i)
 · exact h
structure FStp (c c':Clr) (w w':World):Prop where
 os:w'.os=w.os
 tape:w'.tape=w.tape
 output:w'.output=w.output
 size:w.heap.size≤w'.heap.size
 keep:∀ b,b < w.heap.size→c' b=c b∧(c b=none→w'.heap[b]? =w.heap[b]?)
def Un (w:World) (c:Clr):Nat→Prop:=fun b=>b < w.heap.size∧c b=none
theorem FStp.refl (c:Clr) (w:World):FStp c c w w:=⟨rfl,rfl,rfl,Nat.le_refl _,fun _ _=>⟨rfl,fun _=>rfl⟩⟩
theorem FStp.trans {c1 c2 c3:Clr} {a b d:World} (h:FStp c1 c2 a b) (k:FStp c2 c3 b d):FStp c1 c3 a d:=
 ⟨k.os.trans h.os,k.tape.trans h.tape,k.output.trans h.output,Nat.le_trans h.size k.size,fun n hn=>
   let h1:=h.keep n hn;let h2:=k.keep n (Nat.lt_of_lt_of_le hn h.size)
   ⟨h2.1.trans h1.1,fun e=>(h2.2 (h1.1.trans e)).trans (h1.2 e)⟩⟩
theorem FStp.un {c c':Clr} {w w':World} (h:FStp c c' w w') {b:Nat} (hb:Un w c b):Un w' c' b:=⟨Nat.lt_of_lt_of_le hb.1 h.size,((h.keep b hb.1).1).trans hb.2⟩
theorem FStp.blk {c c':Clr} {w w':World} (h:FStp c c' w w') {b:Nat} (hb:Un w c b):w'.heap[b]? =w.heap[b]? :=(h.keep b hb.1).2 hb.2
theorem FStp.cell {c c':Clr} {w w':World} (h:FStp c c' w w') {b o:Nat} (hb:Un w c b):w'.cell? ⟨b,o,none⟩=w.cell? ⟨b,o,none⟩:=World.cell?_of_block (h.blk hb)
theorem FStp.strs {c c':Clr} {w w':World} (h:FStp c c' w w') {v:Value} {l:List (List UInt8)} (hs:StrsAt w (Un w c) v l):StrsAt w' (Un w' c') v l:=hs.mono (fun _ _ hb=>h.cell hb) fun _ hb=>h.un hb
theorem FStp.exs {c c':Clr} {w w':World} (h:FStp c c' w w') {v:Value} {l:List Ex} (hs:ExsAt w (Un w c) v l):ExsAt w' (Un w' c') v l:=hs.mono (fun _ _ hb=>h.cell hb) fun _ hb=>h.un hb
theorem FStp.stms {c c':Clr} {w w':World} (h:FStp c c' w w') {v:Value} {l:List Stm} (hs:StmsAt w (Un w c) v l):StmsAt w' (Un w' c') v l:=hs.mono (fun _ _ hb=>h.cell hb) fun _ hb=>h.un hb
section
variable {w w':World} {x B:Nat} {c c':Clr} {d:Fd} {m:Nat} {vl vb:Value} {ys:List Nat} {vss:Nat→Nat→Value}
theorem FrC.keep {i y:Nat} {f:Fr} {vs:Nat→Value} (h:FrC w c B i y f vs) (hc:∀ b r,c b=some r→c' b=some r) (hb:∀ b r,c b=some r→(r= .fr i∨∃ k,r= .row i k)→w'.heap[b]? =w.heap[b]?):FrC w' c' B i y f vs:=by
 obtain ⟨nm,hblk⟩:=h.blk
 exact ⟨⟨nm,(hb y _ h.cy (.inl rfl)).trans hblk⟩,hc _ _ h.cy,fun k hk=>own_same (h.own k hk) fun b e=>hb b _ (h.cr k hk b e) (.inr ⟨k,rfl⟩),fun k hk b e=>hc _ _ (h.cr k hk b e)⟩
theorem FdC.keep (h:FdC w x c B d m vl vb ys vss) (hs:w.heap.size≤w'.heap.size) (hb:∀ b r,c b=some r→w'.heap[b]? =w.heap[b]?):FdC w' x c B d m vl vb ys vss:=
 ⟨(hb x _ h.cx).trans h.blk,h.cx,own_same h.lown fun b e=>hb b _ (h.lc b e),h.hm,h.lc,own_same h.bown fun b e=>hb b _ (h.bc b e),h.bc,h.len,fun i hi=>(h.frs i hi).keep (fun _ _ e=>e) fun b r e _=>hb b r e,fun b r e=>⟨(h.lo b r e).1,Nat.lt_of_lt_of_le (h.lo b r e).2 hs⟩,h.one⟩
theorem FdC.grow (h:FdC w x c B d m vl vb ys vss) (hb:Below w.heap.size w w'):FdC w' x c B d m vl vb ys vss∧FStp c c w w':=
 ⟨h.keep hb.size fun b r e=>hb.block b (h.lo b r e).2,hb.os,hb.tape,hb.output,hb.size,fun b hlt=>⟨rfl,fun _=>hb.block b hlt⟩⟩
theorem FdC.fresh (h:FdC w x c B d m vl vb ys vss) {b:Nat} (hb:w.heap.size≤b):c b=none:=by
 rcases e:c b with _ | r
 · rfl
 · have:=(h.lo b r e).2;omega
theorem FdC.x_lt (h:FdC w x c B d m vl vb ys vss):x < w.heap.size:=lt_of_blk h.blk
theorem FdC.ptr (h:FdC w x c B d m vl vb ys vss) {i:Nat} (hi:i < m):∃ g cap,vl= .slice (some ⟨g,0,none⟩) m cap∧m≤cap∧g < w.heap.size∧w.cell? ⟨g,i,none⟩=some (.pointer (some ⟨ys.getD i 0,0,none⟩)):=by
 obtain ⟨g,cap,hv,_,hg,hn,hc⟩:=m_row h.lown (by omega)
 have hm:=h.hm
 have hl:=h.len
 refine ⟨g,cap,hv,hn,hg,?_⟩
 rw [hc i hi]
 unfold ptrCs
 rw [List.getElem?_map,List.getElem?_take_of_lt hi,List.getD_eq_getElem?_getD,List.getElem?_eq_getElem (by omega)]
 rfl
theorem put_old {r:Rl} {o:Option Nat} (hc:∀ b,o=some b→c b=some r∨c b=none):∀ b r',c b=some r'→(c.put o r) b=some r':=by
 intro b r' e
 unfold Clr.put
 split
 · rename_i h
   rcases hc b h with h2 | h2
   · rw [h2] at e;exact e
   · rw [h2] at e;cases e
 · exact e
theorem put_new {r:Rl} {o:Option Nat} {b:Nat} (h:o=some b):(c.put o r) b=some r:=by unfold Clr.put;rw [if_pos h]
theorem FdC.color (h:FdC w x c B d m vl vb ys vss) (r:Rl) (o:Option Nat) (ho:∀ b,o=some b→c b=some r∨(w.heap.size≤b∧B≤b∧b < w'.heap.size)) (hs:w.heap.size≤w'.heap.size):
 (∀ b r',c b=some r'→(c.put o r) b=some r')∧(∀ b r',(c.put o r) b=some r'→B≤b∧b < w'.heap.size)∧(∀ b,b < w.heap.size→(c.put o r) b=c b):=by
 have hc:∀ b,o=some b→c b=some r∨c b=none:=fun b e=>(ho b e).imp id fun h2=>h.fresh h2.1
 refine ⟨put_old hc,fun b r' e=> ?_,fun b hb=> ?_⟩
 · unfold Clr.put at e
   split at e
   · rename_i h2
     rcases ho b h2 with h3 | h3
     · have:=h.lo b _ h3;omega
     · exact h3.2
   · have:=h.lo b _ e;omega
 · unfold Clr.put
   split
   · rename_i h2
     rcases ho b h2 with h3 | h3
     · exact h3.symm
     · omega
   · rfl
theorem at_set (d:Fd) (i j:Nat) (f:Fr→Fr) (hj:j < d.fr.length):(d.set i f).fr.getD j dfr=if i=j then f (d.fr.getD j dfr) else d.fr.getD j dfr:=by
 show (d.fr.modify i f).getD j dfr=_
 rw [List.getD_eq_getElem?_getD,List.getD_eq_getElem?_getD,List.getElem?_modify,List.getElem?_eq_getElem hj]
 by_cases e:i=j <;> simp [e]
def upd (vs:Nat→Value) (k:Nat) (v:Value):Nat→Value:=fun j=>if j=k then v else vs j
def upd2 (vss:Nat→Nat→Value) (i k:Nat) (v:Value):Nat→Nat→Value:=fun j=>if j=i then upd (vss j) k v else vss j
theorem FdC.setRow {w1:World} (h:FdC w x c B d m vl vb ys vss) (i k:Nat) {Y:Nat} (hY:Y=ys.getD i 0) (hi:i < d.fr.length) (hk:k < 4) (v':Value) (f:Fr→Fr)
 (hg:w.grownBy w1 (vss i k).ownBlock) (hown:w1.ownsRow B 9 1 v' ((f (d.fr.getD i dfr)).row k).length (strCs ((f (d.fr.getD i dfr)).row k)))
 (hat:v'.ownBlock=(vss i k).ownBlock∨∀ b,v'.ownBlock=some b→w.heap.size≤b)
 (hf:(f (d.fr.getD i dfr)).around=(d.fr.getD i dfr).around∧(f (d.fr.getD i dfr)).params=(d.fr.getD i dfr).params∧(f (d.fr.getD i dfr)).loops=(d.fr.getD i dfr).loops)
 (hr:∀ j,j < 4→j≠k→(f (d.fr.getD i dfr)).row j=(d.fr.getD i dfr).row j):
 FdC (w1.setCell ⟨Y,6+k,none⟩ v') x (c.put v'.ownBlock (.row i k)) B (d.set i f) m vl vb ys (upd2 vss i k v')∧FStp c (c.put v'.ownBlock (.row i k)) w (w1.setCell ⟨Y,6+k,none⟩ v'):=by
 subst hY
 have hF:=h.frs i hi
 obtain ⟨nm,hblk⟩:=hF.blk
 have hcr:=hF.cr k hk
 have hsz:w.heap.size≤(w1.setCell ⟨ys.getD i 0,6+k,none⟩ v').heap.size:=by simpa using hg.size
 have hho:∀ b,v'.ownBlock=some b→c b=some (.row i k)∨(w.heap.size≤b∧B≤b∧b < (w1.setCell ⟨ys.getD i 0,6+k,none⟩ v').heap.size):=fun b e=>by
  have h3:=hown.lt b e
  rcases hat with h2 | h2
  · exact .inl (hcr b (h2.symm.trans e))
  · exact .inr ⟨h2 b e,h3.1,by simpa using h3.2⟩
 obtain ⟨c1,c2,c3⟩:=h.color (w':=w1.setCell ⟨ys.getD i 0,6+k,none⟩ v') (.row i k) v'.ownBlock hho hsz
 have hkeep:∀ b r,c b=some r→r≠ .fr i→r≠ .row i k→(w1.setCell ⟨ys.getD i 0,6+k,none⟩ v').heap[b]? =w.heap[b]? :=fun b r e n1 n2=>by
  rw [Below.heap_setCell _ _ _ _ (by intro e2;subst e2;rw [hF.cy] at e;exact n1 (Option.some.inj e).symm)]
  refine hg.block b (h.lo b r e).2 fun e2=> ?_
  rw [hcr b e2.symm] at e
  exact n2 (Option.some.inj e).symm
 have hyv:v'.ownBlock≠some (ys.getD i 0):=fun e=>by
  rcases hho _ e with h2 | h2
  · rw [hF.cy] at h2;cases h2
  · have:=lt_of_blk hblk;omega
 have hy1:w1.heap[ys.getD i 0]? =w.heap[ys.getD i 0]? :=hg.block _ (lt_of_blk hblk) fun e2=>by
  have:=hcr _ e2.symm
  rw [hF.cy] at this;cases this
 have hlen:(d.set i f).fr.length=d.fr.length:=by simp [Fd.set]
 refine ⟨⟨(hkeep x _ h.cx (by simp) (by simp)).trans h.blk,c1 _ _ h.cx,own_same h.lown fun b e=>hkeep b _ (h.lc b e) (by simp) (by simp),by rw [hlen];exact h.hm,fun b e=>c1 _ _ (h.lc b e),own_same h.bown fun b e=>hkeep b _ (h.bc b e) (by simp) (by simp),fun b e=>c1 _ _ (h.bc b e),?_,?_,c2,fun b j e=>by rw [hlen];exact h.one b j (put_fr (fun _ e=>by cases e) e)⟩,?_⟩
 · rw [hlen];exact h.len
 · intro j hj
   rw [hlen] at hj
   rw [at_set d i j f hj]
   by_cases e:i=j
   · subst e
     rw [if_pos rfl]
     have e2:upd2 vss i k v' i=upd (vss i) k v':=by unfold upd2;rw [if_pos rfl]
     rw [e2]
     refine ⟨⟨nm,?_⟩,c1 _ _ hF.cy,fun j hj=> ?_,fun j hj b e=> ?_⟩
     · rw [heap_setCell_at (o:=6+k) (v:=v') (hy1.trans hblk)]
       congr 2
       unfold frCells
       rw [hf.1,hf.2.1,hf.2.2]
       match k,hk with
       | 0,_=>rfl
       | 1,_=>rfl
       | 2,_=>rfl
       | 3,_=>rfl
     · unfold upd
       by_cases e3:j=k
       · subst e3
         rw [if_pos rfl]
         exact ownsRow_setCell hown hyv
       · rw [if_neg e3,hr j hj e3]
         exact own_same (hF.own j hj) fun b e=>hkeep b _ (hF.cr j hj b e) (by simp) (by simp [e3])
     · unfold upd at e
       by_cases e3:j=k
       · subst e3
         rw [if_pos rfl] at e
         exact put_new e
       · rw [if_neg e3] at e
         exact c1 _ _ (hF.cr j hj b e)
   · rw [if_neg e]
     have e2:upd2 vss i k v' j=vss j:=by unfold upd2;rw [if_neg (Ne.symm e)]
     rw [e2]
     refine (h.frs j hj).keep c1 fun b r e3 e4=>hkeep b r e3 ?_ ?_
     · rintro rfl
       rcases e4 with e4 | ⟨_,e4⟩
       · simp only [Rl.fr.injEq] at e4;exact e e4
       · cases e4
     · rintro rfl
       rcases e4 with e4 | ⟨_,e4⟩
       · cases e4
       · simp only [Rl.row.injEq] at e4;exact e e4.1
 · refine ⟨hg.os,hg.tape,hg.output,hsz,fun b hb=>⟨c3 b hb,fun e=> ?_⟩⟩
   rw [Below.heap_setCell _ _ _ _ (by intro e2;subst e2;rw [hF.cy] at e;cases e)]
   refine hg.block b hb fun e2=> ?_
   rw [hcr b e2.symm] at e;cases e
theorem FdC.setLoops (h:FdC w x c B d m vl vb ys vss) (i:Nat) {Y:Nat} (hY:Y=ys.getD i 0) (hi:i < d.fr.length) (n:Nat):
 FdC (w.setCell ⟨Y,10,none⟩ (.int .i64 (n:Int))) x c B (d.set i fun f=> { f with loops:=n }) m vl vb ys vss∧FStp c c w (w.setCell ⟨Y,10,none⟩ (.int .i64 (n:Int))):=by
 subst hY
 have hF:=h.frs i hi
 obtain ⟨nm,hblk⟩:=hF.blk
 have hsz:w.heap.size≤(w.setCell ⟨ys.getD i 0,10,none⟩ (.int .i64 (n:Int))).heap.size:=by simp
 have hkeep:∀ b r,c b=some r→r≠ .fr i→(w.setCell ⟨ys.getD i 0,10,none⟩ (.int .i64 (n:Int))).heap[b]? =w.heap[b]? :=fun b r e n1=>
  Below.heap_setCell _ _ _ _ (by intro e2;subst e2;rw [hF.cy] at e;exact n1 (Option.some.inj e).symm)
 have hlen:(d.set i fun f=> { f with loops:=n }).fr.length=d.fr.length:=by simp [Fd.set]
 refine ⟨⟨(hkeep x _ h.cx (by simp)).trans h.blk,h.cx,own_same h.lown fun b e=>hkeep b _ (h.lc b e) (by simp),by rw [hlen];exact h.hm,h.lc,own_same h.bown fun b e=>hkeep b _ (h.bc b e) (by simp),h.bc,?_,?_,fun b r e=>⟨(h.lo b r e).1,Nat.lt_of_lt_of_le (h.lo b r e).2 hsz⟩,fun b j e=>by rw [hlen];exact h.one b j e⟩,?_⟩
 · rw [hlen];exact h.len
 · intro j hj
   rw [hlen] at hj
   rw [at_set d i j _ hj]
   by_cases e:i=j
   · subst e
     rw [if_pos rfl]
     exact ⟨⟨nm,by rw [heap_setCell_at (o:=10) hblk];rfl⟩,hF.cy,fun j hj=>own_same (hF.own j hj) fun b e=>hkeep b _ (hF.cr j hj b e) (by simp),hF.cr⟩
   · rw [if_neg e]
     refine (h.frs j hj).keep (fun _ _ e=>e) fun b r e3 e4=>hkeep b r e3 ?_
     rintro rfl
     rcases e4 with e4 | ⟨_,e4⟩
     · simp only [Rl.fr.injEq] at e4;exact e e4
     · cases e4
 · refine ⟨rfl,rfl,rfl,hsz,fun b hb=>⟨rfl,fun e=> ?_⟩⟩
   exact Below.heap_setCell _ _ _ _ (by intro e2;subst e2;rw [hF.cy] at e;cases e)
theorem FdC.setStmt (h:FdC w x c B d m vl vb ys vss) (n:Int):
 FdC (w.setCell ⟨x,1,none⟩ (.int .i64 n)) x c B { d with stmt:=n } m vl vb ys vss∧FStp c c w (w.setCell ⟨x,1,none⟩ (.int .i64 n)):=by
 have hsz:w.heap.size≤(w.setCell ⟨x,1,none⟩ (.int .i64 n)).heap.size:=by simp
 have hkeep:∀ b r,c b=some r→r≠ .fin→(w.setCell ⟨x,1,none⟩ (.int .i64 n)).heap[b]? =w.heap[b]? :=fun b r e n1=>
  Below.heap_setCell _ _ _ _ (by intro e2;subst e2;rw [h.cx] at e;exact n1 (Option.some.inj e).symm)
 refine ⟨⟨heap_setCell_at (o:=1) h.blk,h.cx,own_same h.lown fun b e=>hkeep b _ (h.lc b e) (by simp),h.hm,h.lc,own_same h.bown fun b e=>hkeep b _ (h.bc b e) (by simp),h.bc,h.len,fun i hi=>(h.frs i hi).keep (fun _ _ e=>e) fun b r e3 e4=>hkeep b r e3 (by rintro rfl;rcases e4 with e4 | ⟨_,e4⟩ <;> cases e4),fun b r e=>⟨(h.lo b r e).1,Nat.lt_of_lt_of_le (h.lo b r e).2 hsz⟩,h.one⟩,?_⟩
 refine ⟨rfl,rfl,rfl,hsz,fun b hb=>⟨rfl,fun e=> ?_⟩⟩
 exact Below.heap_setCell _ _ _ _ (by intro e2;subst e2;rw [h.cx] at e;cases e)
theorem FdC.setBad {w1:World} (h:FdC w x c B d m vl vb ys vss) (v':Value) (l:List Int) (hg:w.grownBy w1 vb.ownBlock) (hown:w1.ownsRow B 3 1 v' l.length (intCs l)) (hat:v'.ownBlock=vb.ownBlock∨∀ b,v'.ownBlock=some b→w.heap.size≤b):
 FdC (w1.setCell ⟨x,2,none⟩ v') x (c.put v'.ownBlock .brow) B { d with bad:=l } m vl v' ys vss∧FStp c (c.put v'.ownBlock .brow) w (w1.setCell ⟨x,2,none⟩ v'):=by
 have hsz:w.heap.size≤(w1.setCell ⟨x,2,none⟩ v').heap.size:=by simpa using hg.size
 have hho:∀ b,v'.ownBlock=some b→c b=some .brow∨(w.heap.size≤b∧B≤b∧b < (w1.setCell ⟨x,2,none⟩ v').heap.size):=fun b e=>by
  have h3:=hown.lt b e
  rcases hat with h2 | h2
  · exact .inl (h.bc b (h2.symm.trans e))
  · exact .inr ⟨h2 b e,h3.1,by simpa using h3.2⟩
 obtain ⟨c1,c2,c3⟩:=h.color (w':=w1.setCell ⟨x,2,none⟩ v') .brow v'.ownBlock hho hsz
 have hkeep:∀ b r,c b=some r→r≠ .fin→r≠ .brow→(w1.setCell ⟨x,2,none⟩ v').heap[b]? =w.heap[b]? :=fun b r e n1 n2=>by
  rw [Below.heap_setCell _ _ _ _ (by intro e2;subst e2;rw [h.cx] at e;exact n1 (Option.some.inj e).symm)]
  refine hg.block b (h.lo b r e).2 fun e2=> ?_
  rw [h.bc b e2.symm] at e
  exact n2 (Option.some.inj e).symm
 have hxv:v'.ownBlock≠some x:=fun e=>by
  rcases hho _ e with h2 | h2
  · rw [h.cx] at h2;cases h2
  · have:=h.x_lt;omega
 have hx1:w1.heap[x]? =w.heap[x]? :=hg.block _ h.x_lt fun e2=>by
  have:=h.bc _ e2.symm
  rw [h.cx] at this;cases this
 refine ⟨⟨heap_setCell_at (o:=2) (hx1.trans h.blk),c1 _ _ h.cx,own_same h.lown fun b e=>hkeep b _ (h.lc b e) (by simp) (by simp),h.hm,fun b e=>c1 _ _ (h.lc b e),ownsRow_setCell hown hxv,fun b e=>put_new e,h.len,fun i hi=>(h.frs i hi).keep c1 fun b r e3 e4=>hkeep b r e3 (by rintro rfl;rcases e4 with e4 | ⟨_,e4⟩ <;> cases e4) (by rintro rfl;rcases e4 with e4 | ⟨_,e4⟩ <;> cases e4),c2,fun b j e=>h.one b j (put_fr (fun _ e=>by cases e) e)⟩,?_⟩
 refine ⟨hg.os,hg.tape,hg.output,hsz,fun b hb=>⟨c3 b hb,fun e=> ?_⟩⟩
 rw [Below.heap_setCell _ _ _ _ (by intro e2;subst e2;rw [h.cx] at e;cases e)]
 refine hg.block b hb fun e2=> ?_
 rw [h.bc b e2.symm] at e;cases e
theorem getD_snocN (l:List Nat) (y j:Nat):(l ++ [y]).getD j 0=if j=l.length then y else l.getD j 0:=by
 rw [List.getD_eq_getElem?_getD,List.getD_eq_getElem?_getD]
 rcases Nat.lt_trichotomy j l.length with h | h | h
 · rw [List.getElem?_append_left h,if_neg (by omega)]
 · rw [List.getElem?_append_right (by omega),if_pos h];subst h;simp
 · rw [List.getElem?_append_right (by omega),if_neg (by omega),List.getElem?_eq_none (by simp;omega),List.getElem?_eq_none (by omega)]
theorem getD_snocF (fr:List Fr) (x:Fr) (j:Nat):(fr ++ [x]).getD j dfr=if j=fr.length then x else fr.getD j dfr:=by
 rw [List.getD_eq_getElem?_getD,List.getD_eq_getElem?_getD]
 rcases Nat.lt_trichotomy j fr.length with h | h | h
 · rw [List.getElem?_append_left h,if_neg (by omega)]
 · rw [List.getElem?_append_right (by omega),if_pos h];subst h;simp
 · rw [List.getElem?_append_right (by omega),if_neg (by omega),List.getElem?_eq_none (by simp;omega),List.getElem?_eq_none (by omega)]
def nilVs:Nat→Value:=fun _=> .slice none 0 0
def newFr (a:Int) (p:Nat):Fr:=⟨a,p,[],[],[],[],0⟩
theorem FdC.newFrame (h:FdC w x c B d m vl vb ys vss) (nm:ByteArray) (a:Int) (p:Nat):
 FdC (w.alloc (.cells (frCells nm (newFr a p) nilVs) 97 (0,0))) x (c.put (some w.heap.size) (.fr d.fr.length)) B { d with fr:=d.fr ++ [newFr a p] } m vl vb (ys ++ [w.heap.size]) (fun i=>if i=d.fr.length then nilVs else vss i)∧
  FStp c (c.put (some w.heap.size) (.fr d.fr.length)) w (w.alloc (.cells (frCells nm (newFr a p) nilVs) 97 (0,0))):=by
 have hb:=(Below.refl w.heap.size w).alloc (Nat.le_refl _) (.cells (frCells nm (newFr a p) nilVs) 97 (0,0))
 have hBx:=h.lo x _ h.cx
 obtain ⟨c1,c2,c3⟩:=h.color (w':=w.alloc (.cells (frCells nm (newFr a p) nilVs) 97 (0,0))) (.fr d.fr.length) (some w.heap.size) (fun b e=>by
  obtain rfl:=Option.some.inj e
  exact .inr ⟨Nat.le_refl _,by omega,by simp⟩) (by simp)
 have hl:=h.len
 refine ⟨⟨(hb.block x h.x_lt).trans h.blk,c1 _ _ h.cx,?_,by simpa using Nat.le_succ_of_le h.hm,fun b e=>c1 _ _ (h.lc b e),own_below h.bown hb,fun b e=>c1 _ _ (h.bc b e),by simp [hl],fun j hj=> ?_,c2,fun b j e=> ?_⟩,hb.os,hb.tape,hb.output,hb.size,fun b hlt=>⟨c3 b hlt,fun _=>hb.block b hlt⟩⟩
 · rw [List.take_append_of_le_length (by have:=h.hm;omega)]
   exact own_below h.lown hb
 · simp only [List.length_append,List.length_cons,List.length_nil] at hj
   rw [getD_snocN,getD_snocF,hl]
   by_cases e:j=d.fr.length
   · subst e
     rw [if_pos rfl,if_pos rfl]
     simp only [if_true]
     refine ⟨⟨nm,heap_alloc_new _ _⟩,put_new rfl,fun k hk=> ?_,fun k hk b e=>by cases e⟩
     have:(newFr a p).row k= []:=by match k,hk with | 0,_=>rfl | 1,_=>rfl | 2,_=>rfl | 3,_=>rfl
     rw [this]
     exact World.ownsRow_nil _ _ _ _
   · rw [if_neg e,if_neg e]
     rw [if_neg e]
     exact (h.frs j (by omega)).keep c1 fun b r e3 _=>hb.block b (h.lo b r e3).2
 · rw [getD_snocN]
   unfold Clr.put at e
   split at e
   · rename_i h2
     obtain rfl:=Option.some.inj h2
     have e2:=Option.some.inj e
     simp only [Rl.fr.injEq] at e2
     subst e2
     exact ⟨by simp,by rw [if_pos hl.symm]⟩
   · obtain ⟨h3,h4⟩:=h.one b j e
     exact ⟨by simp;omega,by rw [if_neg (by omega)];exact h4⟩
theorem FdC.push {w1:World} (h:FdC w x c B d m vl vb ys vss) (v':Value) (hm:m < d.fr.length) (hg:w.grownBy w1 vl.ownBlock) (hown:w1.ownsRow B 95 1 v' (m+1) (ptrCs (ys.take m) ++ [.pointer (some ⟨ys.getD m 0,0,none⟩)])) (hat:v'.ownBlock=vl.ownBlock∨∀ b,v'.ownBlock=some b→w.heap.size≤b):
 FdC (w1.setCell ⟨x,0,none⟩ v') x (c.put v'.ownBlock .lrow) B d (m+1) v' vb ys vss∧FStp c (c.put v'.ownBlock .lrow) w (w1.setCell ⟨x,0,none⟩ v'):=by
 have hsz:w.heap.size≤(w1.setCell ⟨x,0,none⟩ v').heap.size:=by simpa using hg.size
 have hho:∀ b,v'.ownBlock=some b→c b=some .lrow∨(w.heap.size≤b∧B≤b∧b < (w1.setCell ⟨x,0,none⟩ v').heap.size):=fun b e=>by
  have h3:=hown.lt b e
  rcases hat with h2 | h2
  · exact .inl (h.lc b (h2.symm.trans e))
  · exact .inr ⟨h2 b e,h3.1,by simpa using h3.2⟩
 obtain ⟨c1,c2,c3⟩:=h.color (w':=w1.setCell ⟨x,0,none⟩ v') .lrow v'.ownBlock hho hsz
 have hkeep:∀ b r,c b=some r→r≠ .fin→r≠ .lrow→(w1.setCell ⟨x,0,none⟩ v').heap[b]? =w.heap[b]? :=fun b r e n1 n2=>by
  rw [Below.heap_setCell _ _ _ _ (by intro e2;subst e2;rw [h.cx] at e;exact n1 (Option.some.inj e).symm)]
  refine hg.block b (h.lo b r e).2 fun e2=> ?_
  rw [h.lc b e2.symm] at e
  exact n2 (Option.some.inj e).symm
 have hxv:v'.ownBlock≠some x:=fun e=>by
  rcases hho _ e with h2 | h2
  · rw [h.cx] at h2;cases h2
  · have:=h.x_lt;omega
 have hx1:w1.heap[x]? =w.heap[x]? :=hg.block _ h.x_lt fun e2=>by
  have:=h.lc _ e2.symm
  rw [h.cx] at this;cases this
 have hl:=h.len
 have htk:ptrCs (ys.take (m+1))=ptrCs (ys.take m) ++ [.pointer (some ⟨ys.getD m 0,0,none⟩)]:=by
  rw [List.take_succ_eq_append_getElem (by omega),List.getD_eq_getElem?_getD,List.getElem?_eq_getElem (by omega)]
  simp only [Option.getD_some]
  unfold ptrCs
  rw [List.map_append]
  rfl
 refine ⟨⟨heap_setCell_at (o:=0) (hx1.trans h.blk),c1 _ _ h.cx,?_,hm,fun b e=>put_new e,own_same h.bown fun b e=>hkeep b _ (h.bc b e) (by simp) (by simp),fun b e=>c1 _ _ (h.bc b e),h.len,fun i hi=>(h.frs i hi).keep c1 fun b r e3 e4=>hkeep b r e3 (by rintro rfl;rcases e4 with e4 | ⟨_,e4⟩ <;> cases e4) (by rintro rfl;rcases e4 with e4 | ⟨_,e4⟩ <;> cases e4),c2,fun b j e=>h.one b j (put_fr (fun _ e=>by cases e) e)⟩,?_⟩
 · rw [htk];exact ownsRow_setCell hown hxv
 · refine ⟨hg.os,hg.tape,hg.output,hsz,fun b hb=>⟨c3 b hb,fun e=> ?_⟩⟩
   rw [Below.heap_setCell _ _ _ _ (by intro e2;subst e2;rw [h.cx] at e;cases e)]
   refine hg.block b hb fun e2=> ?_
   rw [h.lc b e2.symm] at e;cases e
end
end Go.Proofs.YtdoaeapahgmfoaaGreatDoor
namespace Go.Proofs.YtdoaeapahgmfoaaGreatDoor
open Go.RowKit
theorem grown_alloc {w w1:World} {ob:Obj} {row:Option Nat} (h:(w.alloc ob).grownBy w1 row):w.grownBy w1 row:=
 ⟨h.os,h.tape,h.output,by have:=h.size;simp at this;omega,fun k hk hne=>(h.block k (by simp;omega) hne).trans (Below.heap_alloc _ _ _ hk)⟩
theorem grown_drew {w w1:World} {row:Option Nat} (h:w.drew.grownBy w1 row):w.grownBy w1 row:=⟨h.os,h.tape,h.output,h.size,h.block⟩
def RowPost (w:World) (B:Nat) (v:Value) (l:List (List UInt8)) (e:Ending) (w':World):Prop:=
 ∃ ao cp,e= .returned (.slice ao l.length cp)∧w'.ownsRow B 9 1 (.slice ao l.length cp) l.length (strCs l)∧w.grownBy w' v.ownBlock∧((Value.slice ao l.length cp).ownBlock=v.ownBlock∨∀ b,(Value.slice ao l.length cp).ownBlock=some b→w.heap.size≤b)
theorem own_strs {B:Nat} {w:World} {v:Value} {l:List (List UInt8)} (h:w.ownsRow B 9 1 v l.length (strCs l)):StrsAt w (fun b=>B≤b∧b < w.heap.size) v l:=strs_own h
set_option maxRecDepth 100000 in
set_option maxHeartbeats 20000000 in
theorem add_any {w:World} {B:Nat} {v:Value} {l:List (List UInt8)} (h:w.ownsRow B 9 1 v l.length (strCs l)) (s:List UInt8) (hl:l.length≤50000000) (hB:B≤w.heap.size):
 Calls Tryz.prog 40 #[v,.string (toBA s)] w (RowPost w B v (addL l s)):=by
 have hcall:=has_any l v s _ (own_strs h) (by omega)
 obtain ⟨i0,hi,hz0,hz1,hz2⟩:=info_parts Tryz.infoStrg
 rcases hb:l.contains s with _ | _
 · rw [hb] at hcall
   have he:addL l s=l ++ [s]:=by unfold addL;rw [hb];rfl
   have Hcall:=Lib.hid hcall;have He:=Lib.hid he
   clear hcall he hb
   go_enter Tryz.func40,Tryz.ntmps40
   go_wp2_with fail
   refine Hcall.out.mono ?_
   rintro _ w2 ⟨rfl,rfl⟩
   go_wp2_with (at_builtin;refine wpList_append_lies (w.alloc (.cells #[.string (toBA s)] 9)) rfl (.tmp 9) (.tmp 11) 36 rfl B 9 i0 _ 1 16 Tryz.underlying36 hi hz0 hz1 hz2 rfl (by decide) v l.length (strCs l) rfl (h.alloc _) ⟨w.heap.size,0,none⟩ 1 1 [.string (toBA s)] rfl rfl (World.news_of_block (cs:= #[.string (toBA s)]) (heap_alloc_new w _)) (by simp [Value.oneCell']) (by decide) (by unfold maxLen;omega) (by omega) (by simp;omega) (w.heap.size+1) (by simp) ?_;intro g cap w1 hown hg hat hlt)
   refine bodyPost_ret (results_tmp rfl _ _ _) rfl ?_
   have hl1:(addL l s).length=l.length+1:=by rw [He.out,List.length_append];rfl
   have hs1:strCs (addL l s)=strCs l ++ [.string (toBA s)]:=by rw [He.out,strCs_snoc]
   refine ⟨some ⟨g,0,none⟩,cap,by rw [hl1];rfl,by rw [hl1,hs1];exact hown,grown_alloc hg,?_⟩
   · rcases hat with e | e
     · exact .inl (by rw [e];rfl)
     · exact .inr fun b hb=>by
        have:g=b:=Option.some.inj hb
        omega
 · rw [hb] at hcall
   have he:addL l s=l:=by unfold addL;rw [hb];rfl
   have Hcall:=Lib.hid hcall;have He:=Lib.hid he
   clear hcall he hb
   go_enter Tryz.func40,Tryz.ntmps40
   go_wp2_with fail
   refine Hcall.out.mono ?_
   rintro _ w2 ⟨rfl,rfl⟩
   go_wp2_with fail
   refine bodyPost_ret (results_tmp rfl _ _ _) rfl ?_
   obtain ⟨ao,cp,hv⟩:∃ ao cp,v= .slice ao l.length cp:=by
    rcases h.2 with ⟨e,h0⟩ | ⟨g,cap,cur,e,_⟩
    · exact ⟨none,0,by rw [e,h0]⟩
    · exact ⟨_,_,e⟩
   subst hv
   exact ⟨ao,cp,by rw [He.out];rfl,by rw [He.out];exact h,⟨rfl,rfl,rfl,Nat.le_refl _,fun _ _ _=>rfl⟩,by rw [He.out];exact .inl rfl⟩
def FdPost (w:World) (x B:Nat) (c:Clr) (d':Fd) (r:Value) (e:Ending) (w':World):Prop:=
 e= .returned r∧∃ (c':Clr) (vl vb:Value) (ys:List Nat) (vss:Nat→Nat→Value),FdC w' x c' B d' d'.fr.length vl vb ys vss∧FStp c c' w w'
theorem intCs_snoc (l:List Int) (n:Int):intCs (l ++ [n])=intCs l ++ [.int .i64 n]:=by simp [intCs]
theorem FdC.x_far {w w1:World} {x B m:Nat} {c:Clr} {d:Fd} {vl vb:Value} {ys:List Nat} {vss:Nat→Nat→Value} (h:FdC w x c B d m vl vb ys vss) {row:Option Nat} (hr:∀ b,row=some b→∃ r,c b=some r∧r≠ .fin) (hg:w.grownBy w1 row):
 w1.heap[x]? =some (.cells #[vl,.int .i64 d.stmt,vb] 94 (0,0)):=by
 refine (hg.block x h.x_lt fun e=> ?_).trans h.blk
 obtain ⟨r,h1,h2⟩:=hr x e.symm
 rw [h.cx] at h1
 exact h2 (Option.some.inj h1).symm
theorem FdC.y_far {w w1:World} {x B m:Nat} {c:Clr} {d:Fd} {vl vb:Value} {ys:List Nat} {vss:Nat→Nat→Value} (h:FdC w x c B d m vl vb ys vss) {i Y:Nat} (hY:Y=ys.getD i 0) (hi:i < d.fr.length) {row:Option Nat} (hr:∀ b,row=some b→∃ r,c b=some r∧r≠ .fr i) (hg:w.grownBy w1 row):
 w1.heap[Y]? =w.heap[Y]? :=by
 subst hY
 have hF:=h.frs i hi
 obtain ⟨nm,hb⟩:=hF.blk
 refine hg.block _ (lt_of_blk hb) fun e=> ?_
 obtain ⟨r,h1,h2⟩:=hr _ e.symm
 rw [hF.cy] at h1
 exact h2 (Option.some.inj h1).symm
set_option maxRecDepth 100000 in
set_option maxHeartbeats 20000000 in
theorem fail_any {w:World} {x B m:Nat} {c:Clr} {d:Fd} {vl vb:Value} {ys:List Nat} {vss:Nat→Nat→Value} (h:FdC w x c B d m vl vb ys vss) (hl:d.bad.length≤50000000) (hB:B≤w.heap.size):
 Calls Tryz.prog 109 #[.pointer (some ⟨x,0,none⟩)] w fun e w'=>e= .returned (.tuple #[])∧∃ (c':Clr) (vb':Value),FdC w' x c' B d.fail m vl vb' ys vss∧FStp c c' w w':=by
 obtain ⟨i0,hi,hz0,hz1,hz2⟩:=info_parts Tryz.infoInt
 have c1:=cell_of_blk (o:=1) h.blk
 have c2:=cell_of_blk (o:=2) h.blk
 have f2:=frozen_of_blk (o:=2) h.blk
 have hx:=h.x_lt
 have Hh:=Lib.hid h
 have hbo:=h.bown
 generalize hst:d.stmt=sn at c1
 have Hst:=Lib.hid hst
 clear h hst
 go_enter Tryz.func109,Tryz.ntmps109
 go_region_law ((refine step_append_lies _ (by rfl) _ _ _ (by rfl) B 3 i0 _ 1 8 Tryz.underlying92 hi hz0 hz1 hz2 rfl (by decide) vb d.bad.length (intCs d.bad) (by rfl) (hbo.drew.alloc _) ⟨w.heap.size,0,none⟩ 1 1 [.int .i64 sn] (by rfl) (by rfl) (World.news_of_block (cs:= #[.int .i64 sn]) (t:=3) (fr:=(0,0)) (heap_alloc_new w.drew _)) (by simp [Value.oneCell']) (by decide) (by unfold maxLen;omega) (by omega) (by simp;omega) (w.heap.size+1) (by simp) ?_;intro g cap w1 hown hg hat hlt;have hx1:=Hh.out.x_far (row:=vb.ownBlock) (fun b e=>⟨_,Hh.out.bc b e,by simp⟩) (grown_drew (grown_alloc hg));have d2:=cell_of_blk (o:=2) hx1;have e2:=frozen_of_blk (o:=2) hx1;have z2:=lt_of_blk hx1))
 all_goals
  go_end0
  have hgr:=grown_drew (grown_alloc hg)
  have hs:=Hh.out.setBad (.slice (some ⟨g,0,none⟩) (d.bad.length+1) cap) (d.bad ++ [d.stmt]) hgr (by rw [intCs_snoc,List.length_append,Hst.out];exact hown) (by
   rcases hat with e | e
   · exact .inl e.symm
   · exact .inr fun b hb=>by
      have:g=b:=Option.some.inj hb
      omega)
  exact ⟨rfl,_,_,hs.1,hs.2⟩
theorem fdPost_of {w w':World} {x B m:Nat} {c c':Clr} {d':Fd} {vl vb:Value} {ys:List Nat} {vss:Nat→Nat→Value} (h:FdC w' x c' B d' m vl vb ys vss) (hm:m=d'.fr.length) (hs:FStp c c' w w'):FdPost w x B c d' (.tuple #[]) (.returned (.tuple #[])) w':=by
 subst hm
 exact ⟨rfl,c',vl,vb,ys,vss,h,hs⟩
theorem fdPost_ofR {w w':World} {x B m:Nat} {c c':Clr} {d':Fd} {vl vb r:Value} {e:Ending} {ys:List Nat} {vss:Nat→Nat→Value} (he:e= .returned r) (h:FdC w' x c' B d' m vl vb ys vss) (hm:m=d'.fr.length) (hs:FStp c c' w w'):FdPost w x B c d' r e w':=by
 subst hm
 exact ⟨he,c',vl,vb,ys,vss,h,hs⟩
theorem FdC.look {w:World} {x B m:Nat} {c:Clr} {d:Fd} {vl vb:Value} {ys:List Nat} {vss:Nat→Nat→Value} (h:FdC w x c B d m vl vb ys vss) {i:Nat} (hi:i < m):
 ∃ g cap nm Y,Y=ys.getD i 0∧vl= .slice (some ⟨g,0,none⟩) m cap∧m≤cap∧w.cell? ⟨g,i,none⟩=some (.pointer (some ⟨Y,0,none⟩))∧w.heap[Y]? =some (.cells (frCells nm (d.fr.getD i dfr) (vss i)) 97 (0,0)):=by
 obtain ⟨g,cap,hv,hn,_,hc⟩:=h.ptr hi
 obtain ⟨nm,hb⟩:=(h.frs i (Nat.lt_of_lt_of_le hi h.hm)).blk
 exact ⟨g,cap,nm,_,rfl,hv,hn,hc,hb⟩
set_option maxRecDepth 100000 in
set_option maxHeartbeats 20000000 in
theorem bind_any {w:World} {x B m:Nat} {c:Clr} {d:Fd} {vl vb:Value} {ys:List Nat} {vss:Nat→Nat→Value} (h:FdC w x c B d m vl vb ys vss) (hm:m=d.fr.length) (i:Nat) (hi:i < m) (s:List UInt8) {N:Nat} (hN:Sm d N) (hN2:N≤40000000) (hB:B≤w.heap.size):
 Calls Tryz.prog 112 #[.pointer (some ⟨x,0,none⟩),.int .i64 (i:Int),.string (toBA s)] w (FdPost w x B c (d.bind i s) (.tuple #[])):=by
 obtain ⟨g,cap,nm,Y,hY,rfl,hcap,cg,hblk⟩:=h.look hi
 have hid:i < d.fr.length:=by omega
 have hF:=h.frs i hid
 have c0:=cell_of_blk (o:=0) h.blk
 have hx:=h.x_lt
 have y6:w.cell? ⟨Y,6,none⟩=some (vss i 0):=by rw [cell_of_blk hblk];rfl
 have y8:w.cell? ⟨Y,8,none⟩=some (vss i 2):=by rw [cell_of_blk hblk];rfl
 have y9:w.cell? ⟨Y,9,none⟩=some (vss i 3):=by rw [cell_of_blk hblk];rfl
 have r0:=hN.row i 0
 have r2:=hN.row i 2
 have r3:=hN.row i 3
 have hNf:=hN.fr
 have q2:=has_any _ (vss i 2) s _ (own_strs (hF.own 2 (by decide))) (by omega)
 have q3:=has_any _ (vss i 3) s _ (own_strs (hF.own 3 (by decide))) (by omega)
 have q0:=add_any (hF.own 0 (by decide)) s (by omega) hB
 have hfar:∀ w1,w.grownBy w1 (vss i 0).ownBlock→w1.heap[Y]? =w.heap[Y]? :=fun w1 hg=>h.y_far hY hid (row:=(vss i 0).ownBlock) (fun b e=>⟨_,hF.cr 0 (by decide) b e,by simp⟩) hg
 have HY:=Lib.hid hY;have Hh:=Lib.hid h;have HF:=Lib.hid hF;have Hfar:=Lib.hid hfar;have Hblk:=Lib.hid hblk;have Hm:=Lib.hid hm;have Hid2:=Lib.hid hid;have Q0:=Lib.hid q0
 have i0:(0:Int)≤(i:Int):=Int.natCast_nonneg _
 have i1:(i:Int) < (m:Int):=by omega
 have hm2:m≤40000000:=by omega
 clear hY h hF hfar hblk hm hid q0 hN r0 r2 r3 hNf
 have hbind:d.bind i s=if ((d.fr.getD i dfr).row 2).contains s || ((d.fr.getD i dfr).row 3).contains s then d else d.set i fun x=> { x with bound:=addL x.bound s }:=rfl
 rcases b2:((d.fr.getD i dfr).row 2).contains s with _ | _
 · rw [b2] at q2 hbind
   rcases b3:((d.fr.getD i dfr).row 3).contains s with _ | _
   · rw [b3] at q3 hbind
     rw [if_neg (by simp)] at hbind
     have Hb:=Lib.hid hbind;have Q2:=Lib.hid q2;have Q3:=Lib.hid q3
     clear hbind q2 q3 b2 b3
     go_enter Tryz.func112,Tryz.ntmps112
     go_wp2_with fail
     refine Q2.out.mono ?_
     rintro _ w2 ⟨rfl,rfl⟩
     go_wp2_with fail
     refine Q3.out.mono ?_
     rintro _ w2 ⟨rfl,rfl⟩
     go_wp2_with fail
     refine Q0.out.mono ?_
     rintro _ w1 ⟨ao,cp,rfl,hown,hgr,hat⟩
     have hb1:=(Hfar.out w1 hgr).trans Hblk.out
     have f6:=frozen_of_blk (o:=6) hb1
     have z6:w1.cell? ⟨Y,6,none⟩=some (vss i 0):=by rw [cell_of_blk hb1];rfl
     have zl:=lt_of_blk hb1
     have hs:=Hh.out.setRow i 0 HY.out Hid2.out (by decide) _ (fun x=> { x with bound:=addL x.bound s }) hgr hown hat ⟨rfl,rfl,rfl⟩ (fun j hj hne=>match j,hj with
      | 0,_=>absurd rfl hne
      | 1,_=>rfl
      | 2,_=>rfl
      | 3,_=>rfl)
     have Hs:=Lib.hid hs
     clear hs hown hgr hat hb1
     go_wp2_with fail
     go_end0
     rw [Hb.out]
     exact fdPost_of Hs.out.1 (by rw [Hm.out];simp [Fd.set]) Hs.out.2
   · rw [b3] at q3 hbind
     rw [if_pos (by simp)] at hbind
     have Hb:=Lib.hid hbind;have Q2:=Lib.hid q2;have Q3:=Lib.hid q3
     clear hbind q2 q3 b2 b3
     go_enter Tryz.func112,Tryz.ntmps112
     go_wp2_with fail
     refine Q2.out.mono ?_
     rintro _ w2 ⟨rfl,rfl⟩
     go_wp2_with fail
     refine Q3.out.mono ?_
     rintro _ w2 ⟨rfl,rfl⟩
     go_wp2_with fail
     go_end0
     rw [Hb.out]
     exact fdPost_of Hh.out Hm.out (FStp.refl _ _)
 · rw [b2] at q2 hbind
   rw [if_pos (by simp)] at hbind
   have Hb:=Lib.hid hbind;have Q2:=Lib.hid q2
   clear hbind q2 q3 b2
   go_enter Tryz.func112,Tryz.ntmps112
   go_wp2_with fail
   refine Q2.out.mono ?_
   rintro _ w2 ⟨rfl,rfl⟩
   go_wp2_with fail
   go_end0
   rw [Hb.out]
   exact fdPost_of Hh.out Hm.out (FStp.refl _ _)
end Go.Proofs.YtdoaeapahgmfoaaGreatDoor

/- nurserypylaw1.bare: the walk. other: each text with one letter more. otherExpr: what its loop holds. StmtsOf: the document's statements as the program's: the walk. -/
import Derived.Test.YtdoaeapahgmfoaaGreatDoorZ09
import Derived.Test.YtdoaeapahgmfoaaGreatDoorZ12
import Derived.Test.YtdoaeapahgmfoaaGreatDoorZ13
import Derived.Test.YtdoaeapahgmfoaaGreatDoorZ14
import Derived.Test.YtdoaeapahgmfoaaGreatDoorZ24
import Derived.Test.YtdoaeapahgmfoaaGreatDoorZ46
namespace Go.Proofs.YtdoaeapahgmfoaaGreatDoor
open Go.RowKit
theorem first_nil:(firstF []).fr= [⟨-1,0,[],[],[],[],0⟩]:=rfl
theorem second_nil:(secondF []).bad= []:=rfl
set_option maxRecDepth 100000 in
set_option maxHeartbeats 20000000 in
theorem lawBare_any {w:World} (hen:∃ te pe,w.cell? ⟨3,0,none⟩=some (.iface te pe)):
 Calls Tryz.prog 8 #[] w fun e w'=>e= .returned (.bool true)∧Below w.heap.size w w':=by
 have hs:=scopes_any (T:=False) (ttext_nil w) hen ⟨none,0,rfl,fun h=>by simp at h⟩ (by decide)
 have Hs:=Lib.hid hs
 clear hs hen
 go_enter Tryz.func8,Tryz.ntmps8
 go_wp2_with fail
 refine Hs.out.mono ?_
 rintro _ w1 ⟨hb,hc⟩
 rcases hc with ⟨te,pe,rfl,hcz⟩ | ⟨v,rfl,_,_,hsc⟩
 · rcases hcz with ⟨h,_⟩ | ⟨_,_,_,_,_,_,_,h,_⟩
   · exact h.elim
   · exact absurd second_nil h
 · obtain ⟨a,c,rfl,hr⟩:=hsc
   have hl:(scsF (firstF []).fr).length=1:=by rw [scsF_len,first_nil];rfl
   obtain ⟨b,o,rfl,_,hz⟩:=hr (by omega)
   obtain ⟨nm,vl,vc,vf,-,h1,-⟩:=hz 0 (by omega)
   have e1:((scsF (firstF []).fr)[0]'(by omega)).around= -1:=by rw [scsF_at];rfl
   rw [e1] at h1
   rw [hl]
   have h1:w1.cell? ⟨b,o+1,none⟩=some (.int .i64 (-1)):=by simpa using h1
   have Hb:=Lib.hid hb
   clear hb hr hz hl e1 Hs
   go_wp2_with fail
   refine bodyPost_ret (results_tmp rfl _ _ _) rfl ?_
   exact ⟨rfl,Hb.out⟩
end Go.Proofs.YtdoaeapahgmfoaaGreatDoor
namespace Go.Proofs.YtdoaeapahgmfoaaGreatDoor
open Go.RowKit
theorem toBA_q (s:List UInt8):toBA s ++ (⟨#[113]⟩:ByteArray)=toBA (qn s):=by
 apply ByteArray.ext
 apply Array.ext'
 simp [toBA,qn,ByteArray.data_append]
set_option maxRecDepth 100000 in
set_option maxHeartbeats 20000000 in
theorem other_big {w:World} {G:Nat→Prop} (zs:List (List UInt8)) (v:Value) (hz:StrsAt w G v zs) (hG:∀ b,G b→b < w.heap.size) (hzl:zs.length≤20000000) (hb:∀ z ∈ zs,z.length≤1100000):
 Calls Tryz.prog 16 #[v] w fun e w'=>∃ v',e= .returned v'∧w'.ownsRow w.heap.size 9 1 v' zs.length (zs.map fun s=>Value.string (toBA (qn s)))∧Below w.heap.size w w':=by
 obtain ⟨a,c,rfl,_,hr⟩:=hz
 have Hr:=Lib.hid hr;have HG:=Lib.hid hG
 clear hr hG
 have Hb:=Lib.hid hb
 clear hb
 go_enter Tryz.func16,Tryz.ntmps16
 go_wp2_with fail
 go_loopw [3,4] (fun o i wr=>∃ j:Nat,j≤zs.length∧i= .int .i64 j∧wr.ownsRow w.heap.size 9 1 o j ((zs.take j).map fun s=>Value.string (toBA (qn s)))∧Below w.heap.size w wr) (fun _ i _=>zs.length - (intOf i).toNat)
 case atStart=>exact ⟨0,by omega,rfl,World.ownsRow_nil _ _ _ _,Below.refl _ _⟩
 case round=>
  obtain ⟨j,hj,rfl,hown,hbel⟩:=hrel
  by_cases hjl:j < zs.length
  · have t1:decide ((j:Int) < (zs.length:Int))=true:=by simp;omega
    obtain ⟨b,o,rfl,hbx,hc⟩:=Hr.out (by omega)
    have q:=(hbel.cell (p:=⟨b,o+j,none⟩) (HG.out b hbx)).trans (hc j hjl)
    have hlen:=Hb.out _ (List.getElem_mem hjl)
    have hsb:(toBA zs[j]).size≤1100000:=by rw [toBA_len];omega
    have f1:∀ w,(Op.stringOp .add (toBA zs[j]) ⟨#[113]⟩).run Tryz.prog w= .ok (.string (toBA (qn zs[j]))) w:=fun w=>by
     rw [← toBA_q]
     exact run_string_add_sum w _ _ (by show _+1≤_;omega)
    have hwb:w.heap.size≤wr.heap.size:=hbel.size
    obtain ⟨i0,hi,hz0,hz1,hz2⟩:=info_parts Tryz.infoStrg
    have Hbel:=Lib.hid hbel
    clear hc hlen hbel
    go_wp2_with (at_builtin;refine wpList_append_lies (wr.alloc (.cells #[.string (toBA (qn zs[j]))] 9)) rfl (.tmp 11) (.tmp 17) 36 rfl w.heap.size 9 i0 _ 1 16 Tryz.underlying36 hi hz0 hz1 hz2 rfl (by decide) _ j ((zs.take j).map fun s=>Value.string (toBA (qn s))) rfl (hown.alloc _) ⟨wr.heap.size,0,none⟩ 1 1 [.string (toBA (qn zs[j]))] rfl rfl (World.news_of_block (cs:= #[.string (toBA (qn zs[j]))]) (heap_alloc_new wr _)) (by simp [Value.oneCell']) (by decide) (by unfold maxLen;omega) (by omega) (by simp;omega) (wr.heap.size+1) (by simp) ?_;intro g5 cap5 w5 hown5 hg5 hat5 hlt5)
    have hb5:=below_app Hbel.out hown hg5 hwb
    go_roundw
    case rel=>
     refine ⟨j+1,by omega,by go_num,?_,hb5⟩
     rw [take_snoc zs j hjl,List.map_append]
     exact hown5
    case measure=>simp [intOf];omega
  · have t1:decide ((j:Int) < (zs.length:Int))=false:=by simp;omega
    obtain rfl:j=zs.length:=by omega
    rw [List.take_of_length_le (Nat.le_refl _)] at hown
    go_wp2_with fail
    refine bodyPost_ret (results_tmp rfl _ _ _) rfl ?_
    exact ⟨_,rfl,hown,hbel⟩
theorem other_any {w:World} {G:Nat→Prop} (zs:List (List UInt8)) (v:Value) (hz:StrsAt w G v zs) (hG:∀ b,G b→b < w.heap.size) (hb:strsBulk zs≤1100000):
 Calls Tryz.prog 16 #[v] w fun e w'=>∃ v',e= .returned v'∧w'.ownsRow w.heap.size 9 1 v' zs.length (zs.map fun s=>Value.string (toBA (qn s)))∧Below w.heap.size w w':=
 other_big zs v hz hG (by have:=strsBulk_len zs;omega) fun z h=>by have:=strsBulk_mem h;omega
end Go.Proofs.YtdoaeapahgmfoaaGreatDoor
namespace Go.Proofs.YtdoaeapahgmfoaaGreatDoor
open Go.RowKit
theorem Tryz.infoREx:(Tryz.prog.info? 71).map (fun i=>(i.zero,i.size,i.bytes))=some (some (.agg #[.string ⟨#[]⟩,.int .i64 0,.string ⟨#[]⟩,.slice none 0 0,.slice none 0 0]),5,88):=by kernel_rfl
structure RxSt (w wr:World) (vo:Value) (es:List Ex) (ps:List (Value × Value)):Prop where
 len:ps.length=es.length
 own:wr.ownsRow w.heap.size 71 5 vo es.length (exCells es ps)
 below:Below w.heap.size w wr
 parts:∀ i (h:i < es.length) (h2:i < ps.length),StrsAt wr (Gd w.heap.size wr vo) ps[i].1 es[i].p∧ExsAt wr (Gd w.heap.size wr vo) ps[i].2 es[i].l
theorem RxSt.grow {w wr w1:World} {vo:Value} {es:List Ex} {ps:List (Value × Value)} (h:RxSt w wr vo es ps) (hb:Below wr.heap.size wr w1):RxSt w w1 vo es ps:=by
 refine ⟨h.len,own_below h.own hb,below_grow h.below h.below.size hb,fun i h1 h2=> ?_⟩
 obtain ⟨a,b⟩:=h.parts i h1 h2
 have hG:∀ b,Gd w.heap.size wr vo b→Gd w.heap.size w1 vo b:=fun b hb2=>⟨hb2.1,by have:=hb.size;have:=hb2.2.1;omega,hb2.2.2⟩
 have hc:∀ b o,Gd w.heap.size wr vo b→w1.cell? ⟨b,o,none⟩=wr.cell? ⟨b,o,none⟩:=fun b o hb2=>hb.cell (p:=⟨b,o,none⟩) hb2.2.1
 exact ⟨a.mono hc hG,b.mono hc hG⟩
theorem RxSt.put {w wr w1:World} {vo:Value} {es:List Ex} {ps:List (Value × Value)} {ob:Obj} (h:RxSt w wr vo es ps) (e:Ex) (vp vl:Value) {g cap:Nat}
 (hp:StrsAt wr (Gd w.heap.size wr vo) vp e.p) (hl:ExsAt wr (Gd w.heap.size wr vo) vl e.l)
 (hown:w1.ownsRow w.heap.size 71 5 (.slice (some ⟨g,0,none⟩) (es.length+1) cap) (es.length+1) (exCells es ps ++ [.string (toBA e.op),.int .i64 e.n,.string (toBA e.s),vp,vl]))
 (hg:(wr.alloc ob).grownBy w1 vo.ownBlock) (hat:vo.ownBlock=some g∨g=wr.heap.size+1):
 RxSt w w1 (.slice (some ⟨g,0,none⟩) (es.length+1) cap) (es ++ [e]) (ps ++ [(vp,vl)]):=by
 have hsz:=hg.size
 simp at hsz
 have hG:∀ b,Gd w.heap.size wr vo b→Gd w.heap.size w1 (.slice (some ⟨g,0,none⟩) (es.length+1) cap) b:=fun b hb2=>by
  refine ⟨hb2.1,by have:=hb2.2.1;omega,?_⟩
  intro e1
  simp only [Value.ownBlock,Option.some.injEq] at e1
  subst e1
  rcases hat with h2 | h2
  · exact hb2.2.2 h2
  · have:=hb2.2.1;omega
 have hc:∀ b o,Gd w.heap.size wr vo b→w1.cell? ⟨b,o,none⟩=wr.cell? ⟨b,o,none⟩:=fun b o hb2=>by
  refine World.cell?_of_block ?_
  show w1.heap[b]? =wr.heap[b]?
  rw [hg.block b (by have:=hb2.2.1;simp;omega) (Ne.symm hb2.2.2),Below.heap_alloc _ _ _ hb2.2.1]
 refine ⟨by simp [h.len],?_,below_app h.below h.own hg h.below.size,fun i h1 h2=> ?_⟩
 · rw [exCells_snoc _ _ _ _ h.len,List.length_append]
   exact hown
 · rcases Nat.lt_or_ge i es.length with h' | h'
   · rw [List.getElem_append_left h',List.getElem_append_left (by rw [h.len];exact h')]
     obtain ⟨a,b⟩:=h.parts i h' (by rw [h.len];exact h')
     exact ⟨a.mono hc hG,b.mono hc hG⟩
   · have:i=es.length:=by simp at h1;omega
     subst this
     have e2:(ps ++ [(vp,vl)])[es.length]'h2=(vp,vl):=by
      rw [List.getElem_append_right (by rw [h.len];exact Nat.le_refl _)]
      simp [h.len]
     rw [List.getElem_append_right (Nat.le_refl _),e2]
     simp only [Nat.sub_self,List.getElem_cons_zero]
     exact ⟨hp.mono hc hG,hl.mono hc hG⟩
theorem RxSt.fin {w wr:World} {vo:Value} {es:List Ex} {ps:List (Value × Value)} (h:RxSt w wr vo es ps):ExsAt wr (fun b=>w.heap.size≤b∧b < wr.heap.size) vo es:=by
 have ho:=h.own
 rcases ho.2 with ⟨rfl,h0⟩ | ⟨g,cap,cur,hv,hB,hg,hn',hc,hsz,htake⟩
 · exact ⟨none,0,by rw [h0],by omega,fun hp=>by omega⟩
 refine ⟨some ⟨g,0,none⟩,cap,hv,hn',fun _=>⟨g,0,rfl,⟨hB,lt_of_blk hg⟩,ExRow.of _ _ _ fun j hj=> ?_⟩⟩
 have hk:∀ k,k < es.length * 5→wr.cell? ⟨g,k,none⟩=(exCells es ps)[k]? :=by
  intro k hk
  rw [cell_of_blk hg]
  have h1:(cur.toList.take (es.length * 5))[k]? =(exCells es ps)[k]? :=by rw [htake]
  rw [List.getElem?_take_of_lt hk] at h1
  rw [← h1,Array.getElem?_toList]
 obtain ⟨h0,h1,h2,h3,h4⟩:=exCells_at es ps h.len j hj
 obtain ⟨a,b⟩:=h.parts j hj (by rw [h.len];exact hj)
 have hG:∀ b,Gd w.heap.size wr vo b→w.heap.size≤b∧b < wr.heap.size:=fun b hb2=>⟨hb2.1,hb2.2.1⟩
 rw [Nat.zero_add]
 exact ExAt.of ((hk _ (by omega)).trans h0) ((hk _ (by omega)).trans h1) ((hk _ (by omega)).trans h2) ((hk _ (by omega)).trans h3) ((hk _ (by omega)).trans h4) (a.mono (fun _ _ _=>rfl) hG) (b.mono (fun _ _ _=>rfl) hG)
theorem RxSt.storeG {w3 w5:World} {x q:Nat} {cs:Array Value} {T:TypeId} {vo vo':Value} {es:List Ex} {ps:List (Value × Value)} (hx:w3.heap[x]? =some (.cells cs T (0,0)))
 (h:RxSt (w3.setCell ⟨x,q,none⟩ vo) w5 vo' es ps):RxSt (w3.setCell ⟨x,q,none⟩ vo') (w5.setCell ⟨x,q,none⟩ vo') vo' es ps:=by
 have hxl:x < w3.heap.size:=lt_of_blk hx
 have e1:(w3.setCell ⟨x,q,none⟩ vo).heap.size=w3.heap.size:=by simp
 have e2:(w3.setCell ⟨x,q,none⟩ vo').heap.size=w3.heap.size:=by simp
 have e3:(w5.setCell ⟨x,q,none⟩ vo').heap.size=w5.heap.size:=by simp
 have k1:=heap_setCell_at (o:=q) (v:=vo) hx
 have k2:=heap_setCell_at (o:=q) (v:=vo') hx
 have k5:=(h.below.block x (by rw [e1];exact hxl)).trans k1
 have k6:=heap_setCell_at (o:=q) (v:=vo') k5
 have hne:∀ k,k≠x→(w5.setCell ⟨x,q,none⟩ vo').heap[k]? =w5.heap[k]? :=fun k hk=>Below.heap_setCell w5 ⟨x,q,none⟩ vo' k hk
 have hne3:∀ (u:Value) k,k≠x→(w3.setCell ⟨x,q,none⟩ u).heap[k]? =w3.heap[k]? :=fun u k hk=>Below.heap_setCell w3 ⟨x,q,none⟩ u k hk
 refine ⟨h.len,?_,⟨h.below.os,h.below.tape,h.below.output,by rw [e2,e3];have:=h.below.size;rw [e1] at this;exact this,fun k hk=> ?_⟩,fun i h1 h2=> ?_⟩
 · have ho:=own_same h.own (w':=w5.setCell ⟨x,q,none⟩ vo') fun k e=>hne k (by have:=(h.own.lt k e).1;rw [e1] at this;omega)
   rw [e1] at ho
   rw [e2]
   exact ho
 · rw [e2] at hk
   by_cases hkx:k=x
   · subst hkx
     rw [k6,k2,Array.setIfInBounds_setIfInBounds]
   · rw [hne k hkx,hne3 vo' k hkx,← hne3 vo k hkx]
     exact h.below.block k (by rw [e1];exact hk)
 · obtain ⟨p1,p2⟩:=h.parts i h1 h2
   have hG:∀ k,Gd (w3.setCell ⟨x,q,none⟩ vo).heap.size w5 vo' k→Gd (w3.setCell ⟨x,q,none⟩ vo').heap.size (w5.setCell ⟨x,q,none⟩ vo') vo' k:=fun k hk=>⟨by rw [e2,← e1];exact hk.1,by rw [e3];exact hk.2.1,hk.2.2⟩
   have hc:∀ k o,Gd (w3.setCell ⟨x,q,none⟩ vo).heap.size w5 vo' k→(w5.setCell ⟨x,q,none⟩ vo').cell? ⟨k,o,none⟩=w5.cell? ⟨k,o,none⟩:=fun k o hk=>World.cell?_of_block (hne k (by have:=hk.1;rw [e1] at this;omega))
   exact ⟨p1.mono hc hG,p2.mono hc hG⟩
end Go.Proofs.YtdoaeapahgmfoaaGreatDoor
namespace Go.Proofs.YtdoaeapahgmfoaaGreatDoor
open Go.RowKit
theorem Tryz.infoPSt:(Tryz.prog.info? 82).map (fun i=>(i.zero,i.size,i.bytes))=some (some (.agg #[.string ⟨#[]⟩,.string ⟨#[]⟩,.slice none 0 0,.slice none 0 0,.slice none 0 0,.slice none 0 0]),6,128):=by kernel_rfl
structure SV where
 p:Value
 l:Value
 b:Value
 e:Value
def stCells:List Stm→List SV→List Value
 | s :: r,p :: q=> [.string (toBA s.kind),.string (toBA s.name),p.p,p.l,p.b,p.e] ++ stCells r q
 | _,_=> []
theorem stCells_snoc:∀ (l:List Stm) (ps:List SV) (s:Stm) (p:SV),ps.length=l.length→stCells (l ++ [s]) (ps ++ [p])=stCells l ps ++ [.string (toBA s.kind),.string (toBA s.name),p.p,p.l,p.b,p.e]
 | [],[],_,_,_=>rfl
 | a :: r,q :: t,e,p,h=>by
   have:=stCells_snoc r t e p (by simpa using h)
   simp only [List.cons_append,stCells,this,List.append_assoc]
theorem stCells_at:∀ (l:List Stm) (ps:List SV) (h:ps.length=l.length) (j:Nat) (hj:j < l.length),(stCells l ps)[j * 6]? =some (.string (toBA l[j].kind))∧(stCells l ps)[j * 6+1]? =some (.string (toBA l[j].name))∧
 (stCells l ps)[j * 6+2]? =some (ps[j]'(by omega)).p∧(stCells l ps)[j * 6+3]? =some (ps[j]'(by omega)).l∧(stCells l ps)[j * 6+4]? =some (ps[j]'(by omega)).b∧(stCells l ps)[j * 6+5]? =some (ps[j]'(by omega)).e
 | a :: r,q :: t,h,0,_=>⟨rfl,rfl,rfl,rfl,rfl,rfl⟩
 | a :: r,q :: t,h,j+1,hj=>by
   obtain ⟨h0,h1,h2,h3,h4,h5⟩:=stCells_at r t (by simpa using h) j (by simpa using hj)
   have e:∀ k,(stCells (a :: r) (q :: t))[(j+1) * 6+k]? =(stCells r t)[j * 6+k]? :=by
    intro k
    show ([.string (toBA a.kind),.string (toBA a.name),q.p,q.l,q.b,q.e] ++ stCells r t)[(j+1) * 6+k]? =_
    rw [List.getElem?_append_right (by simp;omega)]
    congr 1
    simp;omega
   exact ⟨(e 0).trans h0,(e 1).trans h1,(e 2).trans h2,(e 3).trans h3,(e 4).trans h4,(e 5).trans h5⟩
structure SvAt (w:World) (G:Nat→Prop) (v:SV) (s:Stm):Prop where
 p:StrsAt w G v.p s.p
 l:ExsAt w G v.l s.l
 b:StmsAt w G v.b s.body
 e:StmsAt w G v.e s.els
theorem SvAt.mono {w w':World} {G G':Nat→Prop} {v:SV} {s:Stm} (hc:∀ b o,G b→w'.cell? ⟨b,o,none⟩=w.cell? ⟨b,o,none⟩) (hG:∀ b,G b→G' b) (h:SvAt w G v s):SvAt w' G' v s:=
 ⟨h.p.mono hc hG,h.l.mono hc hG,h.b.mono hc hG,h.e.mono hc hG⟩
structure StSt (w wr:World) (vo:Value) (es:List Stm) (ps:List SV):Prop where
 len:ps.length=es.length
 own:wr.ownsRow w.heap.size 82 6 vo es.length (stCells es ps)
 below:Below w.heap.size w wr
 parts:∀ i (h:i < es.length) (h2:i < ps.length),SvAt wr (Gd w.heap.size wr vo) ps[i] es[i]
theorem StSt.grow {w wr w1:World} {vo:Value} {es:List Stm} {ps:List SV} (h:StSt w wr vo es ps) (hb:Below wr.heap.size wr w1):StSt w w1 vo es ps:=by
 refine ⟨h.len,own_below h.own hb,below_grow h.below h.below.size hb,fun i h1 h2=> ?_⟩
 have a:=h.parts i h1 h2
 have hG:∀ b,Gd w.heap.size wr vo b→Gd w.heap.size w1 vo b:=fun b hb2=>⟨hb2.1,by have:=hb.size;have:=hb2.2.1;omega,hb2.2.2⟩
 have hc:∀ b o,Gd w.heap.size wr vo b→w1.cell? ⟨b,o,none⟩=wr.cell? ⟨b,o,none⟩:=fun b o hb2=>hb.cell (p:=⟨b,o,none⟩) hb2.2.1
 exact a.mono hc hG
theorem StSt.put {w wr w1:World} {vo:Value} {es:List Stm} {ps:List SV} {ob:Obj} (h:StSt w wr vo es ps) (e:Stm) (v:SV) {g cap:Nat}
 (hp:SvAt wr (Gd w.heap.size wr vo) v e)
 (hown:w1.ownsRow w.heap.size 82 6 (.slice (some ⟨g,0,none⟩) (es.length+1) cap) (es.length+1) (stCells es ps ++ [.string (toBA e.kind),.string (toBA e.name),v.p,v.l,v.b,v.e]))
 (hg:(wr.alloc ob).grownBy w1 vo.ownBlock) (hat:vo.ownBlock=some g∨g=wr.heap.size+1):
 StSt w w1 (.slice (some ⟨g,0,none⟩) (es.length+1) cap) (es ++ [e]) (ps ++ [v]):=by
 have hsz:=hg.size
 simp at hsz
 have hG:∀ b,Gd w.heap.size wr vo b→Gd w.heap.size w1 (.slice (some ⟨g,0,none⟩) (es.length+1) cap) b:=fun b hb2=>by
  refine ⟨hb2.1,by have:=hb2.2.1;omega,?_⟩
  intro e1
  simp only [Value.ownBlock,Option.some.injEq] at e1
  subst e1
  rcases hat with h2 | h2
  · exact hb2.2.2 h2
  · have:=hb2.2.1;omega
 have hc:∀ b o,Gd w.heap.size wr vo b→w1.cell? ⟨b,o,none⟩=wr.cell? ⟨b,o,none⟩:=fun b o hb2=>by
  refine World.cell?_of_block ?_
  show w1.heap[b]? =wr.heap[b]?
  rw [hg.block b (by have:=hb2.2.1;simp;omega) (Ne.symm hb2.2.2),Below.heap_alloc _ _ _ hb2.2.1]
 refine ⟨by simp [h.len],?_,below_app h.below h.own hg h.below.size,fun i h1 h2=> ?_⟩
 · rw [stCells_snoc _ _ _ _ h.len,List.length_append]
   exact hown
 · rcases Nat.lt_or_ge i es.length with h' | h'
   · rw [List.getElem_append_left h',List.getElem_append_left (by rw [h.len];exact h')]
     exact (h.parts i h' (by rw [h.len];exact h')).mono hc hG
   · have:i=es.length:=by simp at h1;omega
     subst this
     have e2:(ps ++ [v])[es.length]'h2=v:=by
      rw [List.getElem_append_right (by rw [h.len];exact Nat.le_refl _)]
      simp [h.len]
     rw [List.getElem_append_right (Nat.le_refl _),e2]
     simp only [Nat.sub_self,List.getElem_cons_zero]
     exact hp.mono hc hG
theorem StSt.fin {w wr:World} {vo:Value} {es:List Stm} {ps:List SV} (h:StSt w wr vo es ps):StmsAt wr (fun b=>w.heap.size≤b∧b < wr.heap.size) vo es:=by
 have ho:=h.own
 rcases ho.2 with ⟨rfl,h0⟩ | ⟨g,cap,cur,hv,hB,hg,hn',hc,hsz,htake⟩
 · exact ⟨none,0,by rw [h0],fun hp=>by omega⟩
 refine ⟨some ⟨g,0,none⟩,cap,hv,fun _=>⟨g,0,rfl,⟨hB,lt_of_blk hg⟩,StmRow.of _ _ _ fun j hj=> ?_⟩⟩
 have hk:∀ k,k < es.length * 6→wr.cell? ⟨g,k,none⟩=(stCells es ps)[k]? :=by
  intro k hk
  rw [cell_of_blk hg]
  have h1:(cur.toList.take (es.length * 6))[k]? =(stCells es ps)[k]? :=by rw [htake]
  rw [List.getElem?_take_of_lt hk] at h1
  rw [← h1,Array.getElem?_toList]
 obtain ⟨h0,h1,h2,h3,h4,h5⟩:=stCells_at es ps h.len j hj
 have a:=h.parts j hj (by rw [h.len];exact hj)
 have hG:∀ b,Gd w.heap.size wr vo b→w.heap.size≤b∧b < wr.heap.size:=fun b hb2=>⟨hb2.1,hb2.2.1⟩
 have a2:=a.mono (w':=wr) (G':=fun b=>w.heap.size≤b∧b < wr.heap.size) (fun _ _ _=>rfl) hG
 rw [Nat.zero_add]
 exact StmAt.of ((hk _ (by omega)).trans h0) ((hk _ (by omega)).trans h1) ((hk _ (by omega)).trans h2) ((hk _ (by omega)).trans h3) ((hk _ (by omega)).trans h4) ((hk _ (by omega)).trans h5) a2.p a2.l a2.b a2.e
def StmtsPost (w:World) (l:List Stm) (e:Ending) (w':World):Prop:=Below w.heap.size w w'∧∃ v,e= .returned v∧StmsAt w' (fun b=>w.heap.size≤b∧b < w'.heap.size) v l
end Go.Proofs.YtdoaeapahgmfoaaGreatDoor

/- ExprsOf: the document's terms as the program's: the walk. The writer's methods: what a step of it may do, in plain words; what its package's variables hold. slices.Index, slices.Contains of texts. -/
import Derived.Deep.AppendLies
import Derived.Deep.CutBlock
import Derived.Deep.RegionLaw
import Derived.Deep.Upon
import Derived.Lib.LaidTab
import Derived.Shelf.Strconv.Itoa4
import Derived.Test.YtdoaeapahgmfoaaGreatDoorZ09
import Derived.Test.YtdoaeapahgmfoaaGreatDoorZ11
namespace Go.Proofs.YtdoaeapahgmfoaaGreatDoor
open Go.RowKit
theorem Tryz.infoPEx:(Tryz.prog.info? 140).map (fun i=>(i.zero,i.size,i.bytes))=some (some (.agg #[.string ⟨#[]⟩,.int .i64 0,.string ⟨#[]⟩,.slice none 0 0,.slice none 0 0]),5,88):=by kernel_rfl
theorem Tryz.infoStrg:(Tryz.prog.info? 9).map (fun i=>(i.zero,i.size,i.bytes))=some (some (.string ⟨#[]⟩),1,16):=by kernel_rfl
theorem append_none (ty:TypeId) (a:Option Addr) (c:Nat) (w:World):(Builtin.append_ #[36,36] ty #[.slice none 0 0,.slice a 0 c]).run Tryz.prog w= .ok (.slice none 0 0) w:=by
 obtain ⟨i,hi,_,hs,_⟩:=info_parts Tryz.infoStrg
 refine run_append_nothing w 36 36 ty 9 i Tryz.underlying36 hi none 0 0 (Nat.le_refl _) _ ?_
 rcases a with _ | ad
 · exact Go.Src.ofNil w Tryz.underlying36 c
 · exact Go.Src.ofSlice w Tryz.underlying36 ad 0 c [] (by simp) (fun j u h=>by simp at h) (fun u h=>by simp at h)
theorem step_append_none {ops:Array Oper} {o:Oper} {a:Act} {w:World} {K:Act→World→Prop} {Q:Exit→Act→World→Prop} {E:Prop} (hgd:o.guard=none) (s x:Operand)
 (ho:o.op= .call { callee:= .builtin .append,args:= #[s,x],argTypes:= #[36,36] }) (ap:Option Addr) (cp:Nat) (hs:a.eval s= .slice none 0 0) (hx:a.eval x= .slice ap 0 cp)
 (h:K (a.put o.dst (.slice none 0 0)) w):if Region.wanted o (yielded ops a.tmps)=true then Oper.wp Tryz.prog o a w K Q else E:=by
 have hw:Region.wanted o (yielded ops a.tmps)=true:=by simp [Region.wanted,hgd]
 rw [if_pos hw]
 have hr:=append_none o.type ap cp w
 unfold Oper.wp execOp
 simp only [ho,resolve,invoke,builtin,Sem.run_bind,Sem.run_pure,Result.andThen_ok,List.map_toArray,List.map_cons,List.map_nil,hs,hx,hr]
 exact h
theorem own_same {B T sz n:Nat} {w w':World} {v:Value} {xs:List Value} (h:w.ownsRow B T sz v n xs) (hb:∀ b,v.ownBlock=some b→w'.heap[b]? =w.heap[b]?):w'.ownsRow B T sz v n xs:=by
 refine ⟨h.1,h.2.imp id ?_⟩
 rintro ⟨g,cap,cur,hv,h1,h2,h3⟩
 exact ⟨g,cap,cur,hv,h1,(hb g (by rw [hv];rfl)).trans h2,h3⟩
def Gd (B:Nat) (w:World) (vo:Value):Nat→Prop:=fun b=>B≤b∧b < w.heap.size∧vo.ownBlock≠some b
def exCells:List Ex→List (Value × Value)→List Value
 | e :: r,p :: q=> [.string (toBA e.op),.int .i64 e.n,.string (toBA e.s),p.1,p.2] ++ exCells r q
 | _,_=> []
theorem exCells_snoc:∀ (l:List Ex) (ps:List (Value × Value)) (e:Ex) (p:Value × Value),ps.length=l.length→exCells (l ++ [e]) (ps ++ [p])=exCells l ps ++ [.string (toBA e.op),.int .i64 e.n,.string (toBA e.s),p.1,p.2]
 | [],[],_,_,_=>rfl
 | a :: r,q :: t,e,p,h=>by
   have:=exCells_snoc r t e p (by simpa using h)
   simp only [List.cons_append,exCells,this,List.append_assoc]
theorem exCells_at:∀ (l:List Ex) (ps:List (Value × Value)) (h:ps.length=l.length) (j:Nat) (hj:j < l.length),(exCells l ps)[j * 5]? =some (.string (toBA l[j].op))∧(exCells l ps)[j * 5+1]? =some (.int .i64 l[j].n)∧
 (exCells l ps)[j * 5+2]? =some (.string (toBA l[j].s))∧(exCells l ps)[j * 5+3]? =some (ps[j]'(by omega)).1∧(exCells l ps)[j * 5+4]? =some (ps[j]'(by omega)).2
 | a :: r,q :: t,h,0,_=>⟨rfl,rfl,rfl,rfl,rfl⟩
 | a :: r,q :: t,h,j+1,hj=>by
   obtain ⟨h0,h1,h2,h3,h4⟩:=exCells_at r t (by simpa using h) j (by simpa using hj)
   have e:∀ k,(exCells (a :: r) (q :: t))[(j+1) * 5+k]? =(exCells r t)[j * 5+k]? :=by
    intro k
    show ([.string (toBA a.op),.int .i64 a.n,.string (toBA a.s),q.1,q.2] ++ exCells r t)[(j+1) * 5+k]? =_
    rw [List.getElem?_append_right (by simp;omega)]
    congr 1
    simp;omega
   exact ⟨(e 0).trans h0,(e 1).trans h1,(e 2).trans h2,(e 3).trans h3,(e 4).trans h4⟩
structure ExSt (w wr:World) (vo:Value) (es:List Ex) (ps:List (Value × Value)):Prop where
 len:ps.length=es.length
 own:wr.ownsRow w.heap.size 140 5 vo es.length (exCells es ps)
 below:Below w.heap.size w wr
 parts:∀ i (h:i < es.length) (h2:i < ps.length),StrsAt wr (Gd w.heap.size wr vo) ps[i].1 es[i].p∧ExsAt wr (Gd w.heap.size wr vo) ps[i].2 es[i].l
theorem ExSt.grow {w wr w1:World} {vo:Value} {es:List Ex} {ps:List (Value × Value)} (h:ExSt w wr vo es ps) (hb:Below wr.heap.size wr w1):ExSt w w1 vo es ps:=by
 refine ⟨h.len,own_below h.own hb,below_grow h.below h.below.size hb,fun i h1 h2=> ?_⟩
 obtain ⟨a,b⟩:=h.parts i h1 h2
 have hG:∀ b,Gd w.heap.size wr vo b→Gd w.heap.size w1 vo b:=fun b hb2=>⟨hb2.1,by have:=hb.size;have:=hb2.2.1;omega,hb2.2.2⟩
 have hc:∀ b o,Gd w.heap.size wr vo b→w1.cell? ⟨b,o,none⟩=wr.cell? ⟨b,o,none⟩:=fun b o hb2=>hb.cell (p:=⟨b,o,none⟩) hb2.2.1
 exact ⟨a.mono hc hG,b.mono hc hG⟩
theorem ExSt.put {w wr w1:World} {vo:Value} {es:List Ex} {ps:List (Value × Value)} {ob:Obj} (h:ExSt w wr vo es ps) (e:Ex) (vp vl:Value) {g cap:Nat}
 (hp:StrsAt wr (Gd w.heap.size wr vo) vp e.p) (hl:ExsAt wr (Gd w.heap.size wr vo) vl e.l)
 (hown:w1.ownsRow w.heap.size 140 5 (.slice (some ⟨g,0,none⟩) (es.length+1) cap) (es.length+1) (exCells es ps ++ [.string (toBA e.op),.int .i64 e.n,.string (toBA e.s),vp,vl]))
 (hg:(wr.alloc ob).grownBy w1 vo.ownBlock) (hat:vo.ownBlock=some g∨g=wr.heap.size+1):
 ExSt w w1 (.slice (some ⟨g,0,none⟩) (es.length+1) cap) (es ++ [e]) (ps ++ [(vp,vl)]):=by
 have hsz:=hg.size
 simp at hsz
 have hG:∀ b,Gd w.heap.size wr vo b→Gd w.heap.size w1 (.slice (some ⟨g,0,none⟩) (es.length+1) cap) b:=fun b hb2=>by
  refine ⟨hb2.1,by have:=hb2.2.1;omega,?_⟩
  intro e1
  simp only [Value.ownBlock,Option.some.injEq] at e1
  subst e1
  rcases hat with h2 | h2
  · exact hb2.2.2 h2
  · have:=hb2.2.1;omega
 have hc:∀ b o,Gd w.heap.size wr vo b→w1.cell? ⟨b,o,none⟩=wr.cell? ⟨b,o,none⟩:=fun b o hb2=>by
  refine World.cell?_of_block ?_
  show w1.heap[b]? =wr.heap[b]?
  rw [hg.block b (by have:=hb2.2.1;simp;omega) (Ne.symm hb2.2.2),Below.heap_alloc _ _ _ hb2.2.1]
 refine ⟨by simp [h.len],?_,below_app h.below h.own hg h.below.size,fun i h1 h2=> ?_⟩
 · rw [exCells_snoc _ _ _ _ h.len,List.length_append]
   exact hown
 · rcases Nat.lt_or_ge i es.length with h' | h'
   · rw [List.getElem_append_left h',List.getElem_append_left (by rw [h.len];exact h')]
     obtain ⟨a,b⟩:=h.parts i h' (by rw [h.len];exact h')
     exact ⟨a.mono hc hG,b.mono hc hG⟩
   · have:i=es.length:=by simp at h1;omega
     subst this
     have e2:(ps ++ [(vp,vl)])[es.length]'h2=(vp,vl):=by
      rw [List.getElem_append_right (by rw [h.len];exact Nat.le_refl _)]
      simp [h.len]
     rw [List.getElem_append_right (Nat.le_refl _),e2]
     simp only [Nat.sub_self,List.getElem_cons_zero]
     exact ⟨hp.mono hc hG,hl.mono hc hG⟩
theorem ExSt.fin {w wr:World} {vo:Value} {es:List Ex} {ps:List (Value × Value)} (h:ExSt w wr vo es ps):ExsAt wr (fun b=>w.heap.size≤b∧b < wr.heap.size) vo es:=by
 have ho:=h.own
 rcases ho.2 with ⟨rfl,h0⟩ | ⟨g,cap,cur,hv,hB,hg,hn',hc,hsz,htake⟩
 · exact ⟨none,0,by rw [h0],by omega,fun hp=>by omega⟩
 refine ⟨some ⟨g,0,none⟩,cap,hv,hn',fun _=>⟨g,0,rfl,⟨hB,lt_of_blk hg⟩,ExRow.of _ _ _ fun j hj=> ?_⟩⟩
 have hk:∀ k,k < es.length * 5→wr.cell? ⟨g,k,none⟩=(exCells es ps)[k]? :=by
  intro k hk
  rw [cell_of_blk hg]
  have h1:(cur.toList.take (es.length * 5))[k]? =(exCells es ps)[k]? :=by rw [htake]
  rw [List.getElem?_take_of_lt hk] at h1
  rw [← h1,Array.getElem?_toList]
 obtain ⟨h0,h1,h2,h3,h4⟩:=exCells_at es ps h.len j hj
 obtain ⟨a,b⟩:=h.parts j hj (by rw [h.len];exact hj)
 have hG:∀ b,Gd w.heap.size wr vo b→w.heap.size≤b∧b < wr.heap.size:=fun b hb2=>⟨hb2.1,hb2.2.1⟩
 rw [Nat.zero_add]
 exact ExAt.of ((hk _ (by omega)).trans h0) ((hk _ (by omega)).trans h1) ((hk _ (by omega)).trans h2) ((hk _ (by omega)).trans h3) ((hk _ (by omega)).trans h4) (a.mono (fun _ _ _=>rfl) hG) (b.mono (fun _ _ _=>rfl) hG)
def ExprsPost (w:World) (l:List Ex) (e:Ending) (w':World):Prop:=Below w.heap.size w w'∧∃ v,e= .returned v∧ExsAt w' (fun b=>w.heap.size≤b∧b < w'.heap.size) v l
def ExBox (wr:World) (e:Ex) (p:Value) (W:World):Prop:=∃ x vl,p= .pointer (some ⟨x,0,none⟩)∧W.heap[x]? =some (.cells #[.string (toBA e.op),.int .i64 e.n,.string (toBA e.s),.slice none 0 0,vl] 140 (0,0))∧Below wr.heap.size wr W∧wr.heap.size≤x∧
 ExsAt W (fun b=>wr.heap.size≤b∧b < W.heap.size∧b≠x) vl e.l
def ExBox2 (wr:World) (e:Ex) (x:Nat) (W:World):Prop:=∃ vp vl,W.heap[x]? =some (.cells #[.string (toBA e.op),.int .i64 e.n,.string (toBA e.s),vp,vl] 140 (0,0))∧Below wr.heap.size wr W∧wr.heap.size≤x∧
 StrsAt W (fun b=>wr.heap.size≤b∧b < W.heap.size∧b≠x) vp e.p∧ExsAt W (fun b=>wr.heap.size≤b∧b < W.heap.size∧b≠x) vl e.l
theorem exBox2_mk {wr wc W:World} {e:Ex} {x:Nat} {ve vp:Value} (hblk:wc.heap[x]? =some (.cells #[.string (toBA e.op),.int .i64 e.n,.string (toBA e.s),.slice none 0 0,ve] 140 (0,0))) (hbc:Below wr.heap.size wr wc) (hxr:wr.heap.size≤x)
 (hxe:ExsAt wc (fun b=>wr.heap.size≤b∧b < wc.heap.size∧b≠x) ve e.l) (hW:Below wc.heap.size wc W) (hp:StrsAt W (fun b=>wr.heap.size≤b∧b < W.heap.size∧b≠x) vp e.p):ExBox2 wr e x (W.setCell ⟨x,3,none⟩ vp):=by
 have hx:=lt_of_blk hblk
 have hs:=hW.size
 have hsc:∀ (o2 b:Nat),b≠x→(W.setCell ⟨x,3,none⟩ vp).cell? ⟨b,o2,none⟩=W.cell? ⟨b,o2,none⟩:=fun o2 b hb=>World.cell?_of_block (Below.heap_setCell W ⟨x,3,none⟩ vp b hb)
 refine ⟨vp,ve,?_,((below_grow hbc hbc.size hW).setCell (p:=⟨x,3,none⟩) hxr _),hxr,hp.mono (fun b o hb=>hsc o b hb.2.2) fun b hb=>by simpa using hb,?_⟩
 · exact heap_setCell_at (o:=3) (v:=vp) ((hW.block x hx).trans hblk)
 · refine hxe.mono (fun b o hb=> ?_) fun b hb=>⟨hb.1,by have:=hb.2.1;simp;omega,hb.2.2⟩
   rw [hsc o b hb.2.2]
   exact hW.cell (p:=⟨b,o,none⟩) hb.2.1
theorem ExBox2.drew {wr:World} {e:Ex} {x:Nat} {W:World} (h:ExBox2 wr e x W):ExBox2 wr e x W.drew:=by
 obtain ⟨vp,vl,h1,h2,h3,h4,h5⟩:=h
 exact ⟨vp,vl,h1,h2.drew,h3,StrsAt.mono (w:=W) (w':=W.drew) (fun _ _ _=>rfl) (fun _ h=>h) h4,ExsAt.mono (w:=W) (w':=W.drew) (fun _ _ _=>rfl) (fun _ h=>h) h5⟩
theorem grown_nil {wc w5:World} (hg:wc.drew.grownBy w5 none):Below wc.heap.size wc w5:=(Below.refl _ _).drew.grown hg (Nat.le_refl _) (fun k hk=>by cases hk)
theorem strs_own {B:Nat} {w:World} {v:Value} {zs:List (List UInt8)} (h:w.ownsRow B 9 1 v zs.length (zs.map fun s=>Value.string (toBA s))):StrsAt w (fun b=>B≤b∧b < w.heap.size) v zs:=by
 rcases Nat.eq_zero_or_pos zs.length with h0 | h0
 · rcases h.2 with ⟨rfl,_⟩ | ⟨g,cap,cur,hv,_⟩
   · exact ⟨none,0,by rw [h0],by omega,fun hp=>by omega⟩
   · exact ⟨_,_,hv,by omega,fun hp=>by omega⟩
 · obtain ⟨g,cap,hv,hB,hg,hnc,hc⟩:=m_row h h0
   refine ⟨_,_,hv,hnc,fun _=>⟨g,0,rfl,⟨hB,hg⟩,fun j hj=> ?_⟩⟩
   rw [Nat.zero_add,hc j hj,List.getElem?_map,List.getElem?_eq_getElem hj]
   rfl
theorem strs_news (zs:List (List UInt8)) (w:World) (b o:Nat) (h:∀ j (hj:j < zs.length),w.cell? ⟨b,o+j,none⟩=some (.string (toBA zs[j]))):
 ∀ j u,(zs.map fun s=>Value.string (toBA s))[j]? =some u→w.cell? ((⟨b,o,none⟩:Addr).add j)=some u:=by
 intro j u hu
 have hj:j < zs.length:=by
  rcases Nat.lt_or_ge j zs.length with h | h
  · exact h
  · rw [List.getElem?_eq_none (by simpa using h)] at hu;cases hu
 rw [List.getElem?_map,List.getElem?_eq_getElem hj] at hu
 have ha:(⟨b,o,none⟩:Addr).add j=⟨b,o+j,none⟩:=by
  unfold Addr.add
  split
  · rename_i h;subst h;rfl
  · rfl
 rw [ha,h j hj]
 simpa using hu
set_option maxRecDepth 100000 in
set_option maxHeartbeats 20000000 in
theorem exprsOf_any:∀ (k:Nat) (l:List Ex) (w:World) (v:Value),exsNodes l≤k→exsBulk l≤1100000→ExsAt w (Lo w.heap.size) v l→
 Calls Tryz.prog 36 #[v] w (ExprsPost w l):=by
 intro k
 induction k with
 | zero=>
   intro l w v hk hbulk hl
   obtain ⟨a,c,rfl,_,hrow⟩:=hl
   rcases l with _ | ⟨e,r⟩
   · clear hrow
     go_enter Tryz.func36,Tryz.ntmps36
     go_wp2_with fail
     go_loop [3,4] (fun o i=>o= .slice none 0 0∧i= .int .i64 0) (fun _ _=>0)
     case atStart=>exact ⟨rfl,rfl⟩
     case round=>
      obtain ⟨rfl,rfl⟩:=hrel
      go_wp2_with fail
      refine bodyPost_ret (results_tmp rfl _ _ _) rfl ?_
      exact ⟨Below.refl _ _,_,rfl,none,0,rfl,Nat.zero_le _,fun hp=>by simp at hp⟩
   · exfalso;unfold exsNodes at hk;rw [Ex.nodes_l] at hk;omega
 | succ k ih=>
   intro l w v hk hbulk hl
   obtain ⟨a,c,rfl,_,hrow⟩:=hl
   have hll:=exsBulk_len l
   have Hih:=Lib.hid ih;have Hrow:=Lib.hid hrow
   have hlb:l.length≤1100000:=by omega
   clear ih hrow
   go_enter Tryz.func36,Tryz.ntmps36
   go_wp2_with fail
   go_loopw [3,4] (fun o i wr=>∃ (j:Nat) (ps:List (Value × Value)),j≤l.length∧i= .int .i64 j∧ExSt w wr o (l.take j) ps) (fun _ i _=>l.length - (intOf i).toNat)
   case atStart=>exact ⟨0,[],by omega,rfl,⟨rfl,World.ownsRow_nil _ _ _ _,Below.refl _ _,fun i h=>by simp at h⟩⟩
   case round=>
    obtain ⟨j,ps,hj,rfl,hS⟩:=hrel
    have hbel:=hS.below
    by_cases hjl:j < l.length
    · have t1:decide ((j:Int) < (l.length:Int))=true:=by simp;omega
      obtain ⟨b,o,rfl,hbB,hr⟩:=Hrow.out (by omega)
      obtain ⟨vp,vl,q0,q1,q2,q3,q4,hp,hx⟩:=(hr.at_ _ _ _ j hjl).open_
      have hbl':b < w.heap.size:=hbB
      have q0:=(hbel.cell (p:=⟨b,_,none⟩) hbl').trans q0
      have q1:=(hbel.cell (p:=⟨b,_,none⟩) hbl').trans q1
      have q2:=(hbel.cell (p:=⟨b,_,none⟩) hbl').trans q2
      have q4:=(hbel.cell (p:=⟨b,_,none⟩) hbl').trans q4
      have hm:=exs_mem (List.getElem_mem hjl)
      have hne:=Ex.nodes_l l[j]
      have hbe:=Ex.bulk_eq l[j]
      have hwr:=hbel.size
      have hblr:b < wr.heap.size:=by omega
      have hj0:(0:Int)≤(j:Int):=Int.natCast_nonneg _
      have hj1:(j:Int) < (l.length:Int):=by omega
      have hcall:∀ W:World,Below wr.heap.size wr W→Calls Tryz.prog 36 #[vl] W fun e w'=>∃ a2 c2,e= .returned (.slice a2 l[j].l.length c2)∧Hid (ExsAt w' (fun b=>W.heap.size≤b∧b < w'.heap.size) (.slice a2 l[j].l.length c2) l[j].l)∧Hid (Below W.heap.size W w')∧Hid (Below wr.heap.size wr w')∧
       w'.cell? ⟨b,o+j * 5,none⟩=some (.string (toBA l[j].op))∧w'.cell? ⟨b,o+j * 5+1,none⟩=some (.int .i64 l[j].n)∧w'.cell? ⟨b,o+j * 5+2,none⟩=some (.string (toBA l[j].s))∧w'.cell? ⟨b,o+j * 5+4,none⟩=some vl∧b < w'.heap.size:=fun W hW=>by
       have hq:=below_grow hbel hwr hW
       refine (Hih.out l[j].l W vl (by omega) (by omega) (hx.lift hq hq.size)).mono ?_
       rintro e w' ⟨hb,v,rfl,a2,c2,rfl,hc2,hr2⟩
       have hbw:=below_grow hW hW.size hb
       exact ⟨a2,c2,rfl,Lib.hid ⟨a2,c2,rfl,hc2,hr2⟩,Lib.hid hb,Lib.hid hbw,(hbw.cell (p:=⟨b,_,none⟩) hblr).trans q0,(hbw.cell (p:=⟨b,_,none⟩) hblr).trans q1,(hbw.cell (p:=⟨b,_,none⟩) hblr).trans q2,(hbw.cell (p:=⟨b,_,none⟩) hblr).trans q4,by have:=hbw.size;omega⟩
      have Hcall:=Lib.hid hcall;have Hp:=Lib.hid hp;have Hq3:=Lib.hid q3
      clear hcall hx hp q3 hr hm hne hbe
      go_upto_region 5 with fail
      go_cut [5] (fun p W=>ExBox wr l[j] p W)
      case first=>
       have hall:∀ (W:World) (ob:Obj) (o':Nat),b < W.heap.size→(W.alloc ob).cell? ⟨b,o',none⟩=W.cell? ⟨b,o',none⟩:=fun W ob o' h=>World.cell?_alloc_lt W ob ⟨b,o',none⟩ h
       have hset:∀ (W:World) (o1 o2:Nat) (u:Value),(W.setCell ⟨wr.heap.size,o1,none⟩ u).cell? ⟨b,o2,none⟩=W.cell? ⟨b,o2,none⟩:=fun W o1 o2 u=>World.cell?_of_block (Below.heap_setCell W ⟨wr.heap.size,o1,none⟩ u b (by show b≠wr.heap.size;omega))
       go_region_held3 (fun w'=>w'.cell? ⟨b,o+j * 5,none⟩=some (.string (toBA l[j].op))∧w'.cell? ⟨b,o+j * 5+1,none⟩=some (.int .i64 l[j].n)∧w'.cell? ⟨b,o+j * 5+2,none⟩=some (.string (toBA l[j].s))∧w'.cell? ⟨b,o+j * 5+4,none⟩=some vl)
        (first
          | go_keep
          | (go_split_ands
             refine ⟨?_,?_,?_,?_⟩
             · (rw [hall w2 _ _ (by omega)];assumption)
             · (rw [hall w2 _ _ (by omega)];assumption)
             · (rw [hall w2 _ _ (by omega)];assumption)
             · (rw [hall w2 _ _ (by omega)];assumption))
          | (go_split_ands
             refine ⟨?_,?_,?_,?_⟩
             · (simp only [hset];assumption)
             · (simp only [hset];assumption)
             · (simp only [hset];assumption)
             · (simp only [hset];assumption)))
        ((go_at_call 36;refine (Hcall.out _ ?_).mono ?_;(first | exact (Below.refl _ _).drew | exact ((Below.refl _ _).drew.alloc (Nat.le_refl _) _));rintro e w2 ⟨a2,c2,rfl,hx2,hb2,hbw2,k0,k1,k2,k4,kl⟩;try (have hz:=(hb2.out.block wr.heap.size (by simp)).trans (heap_alloc_new wr.drew _);have fz0:=frozen_of_blk (o:=0) hz;have fz1:=frozen_of_blk (o:=1) hz;have fz2:=frozen_of_blk (o:=2) hz;have fz3:=frozen_of_blk (o:=3) hz;have fz4:=frozen_of_blk (o:=4) hz;have zl:=lt_of_blk hz;have cz0:=cell_of_blk (o:=0) hz;have cz1:=cell_of_blk (o:=1) hz;have cz2:=cell_of_blk (o:=2) hz;have cz3:=cell_of_blk (o:=3) hz;have cz4:=cell_of_blk (o:=4) hz)))
       · go_wp2_with fail
         go_meet
         case rel=>
          have hs2:=hbw2.out.size
          refine ⟨w2.heap.size,.slice a2 l[j].l.length c2,rfl,heap_alloc_new _ _,hbw2.out.alloc hs2 _,hs2,hx2.out.mono (fun b o hb=> ?_) fun b hb=>⟨hb.1,?_,?_⟩⟩
          · exact World.cell?_alloc_lt w2 _ ⟨b,o,none⟩ hb.2
          · have:=hb.2;simp;omega
          · have:=hb.2;omega
       · go_wp2_with fail
         go_meet
         case rel=>
          have hs2:=hbw2.out.size
          have hsc:∀ (W:World) (o1 o2:Nat) (u:Value) (b:Nat),b≠wr.heap.size→(W.setCell ⟨wr.heap.size,o1,none⟩ u).cell? ⟨b,o2,none⟩=W.cell? ⟨b,o2,none⟩:=fun W o1 o2 u b hb=>World.cell?_of_block (Below.heap_setCell W ⟨wr.heap.size,o1,none⟩ u b hb)
          refine ⟨wr.heap.size,.slice a2 l[j].l.length c2,rfl,?_,?_,Nat.le_refl _,hx2.out.mono (fun b o hb=> ?_) fun b hb=>⟨?_,?_,?_⟩⟩
          · have k0:=heap_setCell_at (o:=0) (v:= .string (toBA l[j].op)) hz
            have k1:=heap_setCell_at (o:=1) (v:= .int .i64 l[j].n) k0
            have k2:=heap_setCell_at (o:=2) (v:= .string (toBA l[j].s)) k1
            have k3:=heap_setCell_at (o:=3) (v:= .slice none 0 0) k2
            have k4:=heap_setCell_at (o:=4) (v:= .slice a2 l[j].l.length c2) k3
            exact k4
          · exact ((((hbw2.out.setCell (p:=⟨wr.heap.size,0,none⟩) (Nat.le_refl _) _).setCell (p:=⟨wr.heap.size,1,none⟩) (Nat.le_refl _) _).setCell (p:=⟨wr.heap.size,2,none⟩) (Nat.le_refl _) _).setCell (p:=⟨wr.heap.size,3,none⟩) (Nat.le_refl _) _).setCell (p:=⟨wr.heap.size,4,none⟩) (Nat.le_refl _) _
          · have h1:=hb.1
            have hne:b≠wr.heap.size:=by simp at h1;omega
            rw [hsc _ _ _ _ _ hne,hsc _ _ _ _ _ hne,hsc _ _ _ _ _ hne,hsc _ _ _ _ _ hne,hsc _ _ _ _ _ hne]
          · have h1:=hb.1;simp at h1;omega
          · have h1:=hb.2;simpa using h1
          · have h1:=hb.1;simp at h1;omega
      case rest=>
       obtain ⟨x,ve,rfl,hblk,hbc,hxr,hxe⟩:=hcut
       have hbcw:=below_grow hbel hwr hbc
       have q3:wc.cell? ⟨b,o+j * 5+3,none⟩=some vp:=(hbcw.cell (p:=⟨b,_,none⟩) hbl').trans Hq3.out
       have c3:=cell_of_blk (o:=3) hblk
       have f3:=frozen_of_blk (o:=3) hblk
       have hxc:=lt_of_blk hblk
       obtain ⟨ap,cp,rfl,hpcap,hps⟩:=Hp.out
       have Hps:=Lib.hid hps;have Hxe:=Lib.hid hxe;have Hblk:=Lib.hid hblk
       clear hps hxe hblk
       go_upto_region 6 with fail
       go_cut [] (fun W=>ExBox2 wr l[j] x W)
       case first=>
        by_cases hpn:l[j].p.length=0
        · rw [hpn] at q3
          go_region_law ((refine step_append_none (by rfl) _ _ (by rfl) ap cp (by rfl) (by rfl) ?_))
          all_goals
           (go_wp2_with fail
            go_meet
            case rel=>exact (exBox2_mk Hblk.out hbc hxr Hxe.out (Below.refl _ _) ⟨none,0,by rw [hpn],by omega,fun hp=>by omega⟩).drew)
        · obtain ⟨bp,op,rfl,hbpB,hz⟩:=Hps.out (by omega)
          have hbp:bp < w.heap.size:=hbpB
          have hnews:∀ j' u,(l[j].p.map fun s=>Value.string (toBA s))[j']? =some u→wc.cell? ((⟨bp,op,none⟩:Addr).add j')=some u:=strs_news l[j].p wc bp op fun j' hj'=>(hbcw.cell (p:=⟨bp,_,none⟩) hbp).trans (hz j' hj')
          obtain ⟨is,his,hs0,hs1,hs2⟩:=info_parts Tryz.infoStrg
          have hplen:l[j].p.length≤1100000:=by
           have:=strsBulk_len l[j].p
           have:=exs_mem (List.getElem_mem hjl)
           have:=Ex.bulk_eq l[j]
           omega
          have Hz:=Lib.hid hz;have Hn:=Lib.hid hnews
          clear hz hnews
          go_region_law ((refine step_append_lies _ (by rfl) _ _ _ (by rfl) wc.heap.size 9 is _ 1 16 Tryz.underlying36 his hs0 hs1 hs2 rfl (by decide) (.slice none 0 0) 0 [] (by rfl) (World.ownsRow_nil _ _ _ _) ⟨bp,op,none⟩ l[j].p.length cp (l[j].p.map fun s=>Value.string (toBA s)) (by rfl) (by simp) (fun j' u hu=>Hn.out j' u hu) (by intro u hu;obtain ⟨s,_,rfl⟩:=List.mem_map.1 hu;rfl) (by omega) (by unfold maxLen;omega) (by omega) (Nat.le_refl _) wc.heap.size (by rfl) ?_;intro g5 cap5 w5 hown5 hgrow5 hat5 hlt5;have hbl5:=grown_nil hgrow5;have hz5:=(hbl5.block x hxc).trans Hblk.out;have c5:=frozen_of_blk (o:=3) hz5;have c6:=cell_of_blk (o:=3) hz5;have c7:=lt_of_blk hz5))
          all_goals
           (have hp5:StrsAt w5 (fun b=>wr.heap.size≤b∧b < w5.heap.size∧b≠x) (.slice (some ⟨g5,0,none⟩) l[j].p.length cap5) l[j].p:=by
             have h1:w5.ownsRow wc.heap.size 9 1 (.slice (some ⟨g5,0,none⟩) l[j].p.length cap5) l[j].p.length (l[j].p.map fun s=>Value.string (toBA s)):=by simpa using hown5
             have hbcs:=hbc.size
             exact (strs_own h1).mono (fun _ _ _=>rfl) fun b hb=>⟨Nat.le_trans hbcs hb.1,hb.2,by have:=hb.1;omega⟩
            have Hp5:=Lib.hid hp5
            clear hp5 hown5
            go_wp2_with fail
            go_meet
            case rel=>exact exBox2_mk Hblk.out hbc hxr Hxe.out hbl5 Hp5.out)
       case rest=>
        obtain ⟨vp2,vl2,hblk2,hbc2,hxr2,hp2,hl2⟩:=hcut
        have Hp2:=Lib.hid hp2;have Hl2:=Lib.hid hl2
        obtain ⟨ap2,cp2,rfl,_⟩:=hp2
        obtain ⟨al2,cl2,rfl,_⟩:=hl2
        have hS2:=hS.grow hbc2
        have d0:=cell_of_blk (o:=0) hblk2
        have d1:=cell_of_blk (o:=1) hblk2
        have d2:=cell_of_blk (o:=2) hblk2
        have d3:=cell_of_blk (o:=3) hblk2
        have d4:=cell_of_blk (o:=4) hblk2
        have hll2:(l.take j).length≤1100000:=by simp;omega
        have hS2s:=hS2.below.size
        obtain ⟨i2,hi2,hy0,hy1,hy2⟩:=info_parts Tryz.infoPEx
        clear hblk2 q3 c3 f3
        go_wp2_with (at_builtin;refine wpList_append_lies (wc.alloc (.cells #[.string (toBA l[j].op),.int .i64 l[j].n,.string (toBA l[j].s),.slice ap2 l[j].p.length cp2,.slice al2 l[j].l.length cl2] 140)) rfl (.tmp 43) (.tmp 45) 80 rfl w.heap.size 140 i2 _ 5 88 Tryz.underlying80 hi2 hy0 hy1 hy2 rfl (by decide) _ (l.take j).length (exCells (l.take j) ps) rfl (hS2.own.alloc _) ⟨wc.heap.size,0,none⟩ 1 1 [.string (toBA l[j].op),.int .i64 l[j].n,.string (toBA l[j].s),.slice ap2 l[j].p.length cp2,.slice al2 l[j].l.length cl2] rfl rfl (World.news_of_block (cs:= #[.string (toBA l[j].op),.int .i64 l[j].n,.string (toBA l[j].s),.slice ap2 l[j].p.length cp2,.slice al2 l[j].l.length cl2]) (heap_alloc_new wc _)) (by simp [Value.oneCell']) (by decide) (by unfold maxLen;omega) (by omega) (by simp;omega) (wc.heap.size+1) (by simp) ?_;intro g5 cap5 w5 hown5 hgrow5 hat5 hlt5)
        have hGd:∀ b,(wr.heap.size≤b∧b < wc.heap.size∧b≠x)→∀ vo:Value,(∀ k,vo.ownBlock=some k→k < wr.heap.size)→Gd w.heap.size wc vo b:=fun b hb vo hv=>⟨by omega,hb.2.1,fun e=>by have:=hv b e;omega⟩
        have R4:=hS2.put l[j] _ _ (Hp2.out.mono (fun _ _ _=>rfl) fun b hb=>hGd b hb _ fun k e=>(hS.own.lt k e).2) (Hl2.out.mono (fun _ _ _=>rfl) fun b hb=>hGd b hb _ fun k e=>(hS.own.lt k e).2) hown5 hgrow5 hat5
        rw [← List.take_succ_eq_append_getElem hjl] at R4
        go_roundw
        case rel=>
         have e9:(l.take j).length=j:=by simp;omega
         rw [e9] at R4
         exact ⟨j+1,_,by omega,by go_num,R4⟩
        case measure=>simp [intOf];omega
    · have t1:decide ((j:Int) < (l.length:Int))=false:=by simp;omega
      obtain rfl:j=l.length:=by omega
      rw [List.take_of_length_le (Nat.le_refl _)] at hS
      have Hf:=Lib.hid hS.fin
      clear hS
      go_wp2_with fail
      refine bodyPost_ret (results_tmp rfl _ _ _) rfl ?_
      exact ⟨hbel,_,rfl,Hf.out⟩
end Go.Proofs.YtdoaeapahgmfoaaGreatDoor
namespace Go.Proofs.YtdoaeapahgmfoaaGreatDoor
open Go.RowKit
structure Nx (st st':WS) (k m:Nat):Prop where
 inn:st'.inn=st.inn
 len:st'.len≤st.len+m
 n:st'.n≤st.n+k
 ok:st'.ok=true→st.ok=true
theorem Nx.refl (st:WS) (k m:Nat):Nx st st k m:=⟨rfl,by omega,by omega,id⟩
theorem Nx.trans {a b c:WS} {k m k' m' k2 m2:Nat} (h:Nx a b k m) (g:Nx b c k' m') (hk:k+k'≤k2) (hm:m+m'≤m2):Nx a c k2 m2:=
 ⟨g.inn.trans h.inn,by have:=h.len;have:=g.len;omega,by have:=h.n;have:=g.n;omega,fun e=>h.ok (g.ok e)⟩
theorem Nx.mono {a b:WS} {k m k' m':Nat} (h:Nx a b k m) (hk:k≤k') (hm:m≤m'):Nx a b k' m':=⟨h.inn,by have:=h.len;omega,by have:=h.n;omega,h.ok⟩
theorem Nx.must (st:WS) (b:Bool) (k m:Nat):Nx st (st.must b) k m:=⟨rfl,by show st.len≤_;omega,by show st.n≤_;omega,fun e=>by
 have:(st.ok && b)=true:=e
 rw [Bool.and_eq_true] at this
 exact this.1⟩
theorem Nx.look (st:WS) (k m:Nat):Nx st st.look (k+1) m:=⟨rfl,by show st.len≤_;omega,by show st.n+1≤_;omega,fun e=>by
 have:(st.ok && decide (st.n+1≤6000))=true:=e
 rw [Bool.and_eq_true] at this
 exact this.1⟩
theorem Nx.name (st:WS) (s:List UInt8) (k m:Nat):Nx st (st.nameW s) k m:=Nx.must _ _ _ _
theorem Nx.deeper (st:WS) (d k m:Nat):Nx st (st.deeper d) k m:=Nx.must _ _ _ _
theorem must_ok {st:WS} {b:Bool} (h:(st.must b).ok=true):st.ok=true∧b=true:=by
 have:(st.ok && b)=true:=h
 rwa [Bool.and_eq_true] at this
def TextPost (x:Nat) (w:World) (st:WS) (p v:Value) (l:List UInt8) (B k:Nat) (R:Nat→WS→Prop) (e:Ending) (w':World):Prop:=
 ∃ (s:ByteArray) (st':WS),e= .returned (.string s)∧s.size≤B∧Nx st st' k 0∧WrC w' x st' p v l∧WStp x w w'∧R s.size st'
theorem TextPost.mono {x:Nat} {w:World} {st:WS} {p v:Value} {l:List UInt8} {B B' k k':Nat} {R:Nat→WS→Prop} {e:Ending} {w':World} (h:TextPost x w st p v l B k R e w') (hB:B≤B') (hk:k≤k'):TextPost x w st p v l B' k' R e w':=by
 obtain ⟨s,st',h1,h2,h3,h4,h5⟩:=h
 exact ⟨s,st',h1,by omega,h3.mono hk (Nat.le_refl _),h4,h5⟩
def WrPost (x:Nat) (w:World) (st:WS) (k m:Nat) (Q:WS→Prop) (e:Ending) (w':World):Prop:=
 ∃ (st':WS) (p v:Value) (l:List UInt8),e= .returned (.tuple #[])∧Nx st st' k m∧Q st'∧WrC w' x st' p v l∧WStp x w w'
section
variable {w wr w5:World} {x:Nat} {st:WS} {p v vo:Value} {l:List UInt8} {ob:Obj}
theorem WrC.app (h:WrC wr x st p v l) (hs:∀ g,vo.ownBlock=some g→WSafe wr x g) (hg:(wr.alloc ob).grownBy w5 vo.ownBlock):WrC w5 x st p v l:=by
 have hx:=h.lt
 have hk:∀ k,k < wr.heap.size→some k≠vo.ownBlock→w5.heap[k]? =wr.heap[k]? :=fun k hk hne=>(hg.block k (by simp;omega) hne).trans (Below.heap_alloc _ _ _ hk)
 refine ⟨(hk x hx fun e=>((hs x e.symm).2.1) rfl).trans h.blk,h.addr,own_same h.buf fun b e=>hk b (h.own_lt e).2 fun e2=>(hs b e2.symm).2.2 _ _ _ _ _ _ h.blk e,h.len,h.ne⟩
theorem WStp.app (h0:WStp x w wr) (h:WrC wr x st p v l) (hs:∀ g,vo.ownBlock=some g→WSafe wr x g∧w.heap.size≤g) (hg:(wr.alloc ob).grownBy w5 vo.ownBlock):WStp x w w5:=by
 have h5:=h.app (fun g e=>(hs g e).1) hg
 have hx:=h.lt
 have hsz:=hg.size
 simp at hsz
 have hk:∀ k,k < wr.heap.size→some k≠vo.ownBlock→w5.heap[k]? =wr.heap[k]? :=fun k hk hne=>(hg.block k (by simp;omega) hne).trans (Below.heap_alloc _ _ _ hk)
 refine ⟨hg.os.trans h0.os,hg.tape.trans h0.tape,hg.output.trans h0.output,by have:=h0.size;omega,fun k hk1=> ?_⟩
 obtain ⟨h1,h2⟩:=h0.safe k hk1
 have hne:some k≠vo.ownBlock:=fun e=>by have:=(hs k e.symm).2;have:=hk1.1;omega
 refine ⟨⟨by have:=h1.1;omega,h1.2.1,fun p' v' a b c T hh=> ?_⟩,(hk k h1.1 hne).trans h2⟩
 rw [hk x hx fun e=>(hs x e.symm).1.2.1 rfl] at hh
 exact h1.2.2 p' v' a b c T hh
theorem safe_of_new (h:WrC wr x st p v l) (hs:∀ g,vo.ownBlock=some g→WSafe wr x g) (hg:(wr.alloc ob).grownBy w5 vo.ownBlock) {k:Nat} (hk:k < w5.heap.size) (hat:vo.ownBlock=some k∨wr.heap.size≤k):WSafe w5 x k:=by
 have h5:=h.app hs hg
 refine ⟨hk,?_,fun p' v' a b c T hh=> ?_⟩
 · rcases hat with e | e
   · exact (hs k e).2.1
   · have:=h.lt;omega
 · rw [h5.blk] at hh
   injection hh with hh
   injection hh with hh _
   simp only [Array.mk.injEq,List.cons.injEq,and_true] at hh
   obtain ⟨_,rfl,_⟩:=hh
   intro e
   rcases hat with e2 | e2
   · exact (hs k e2).2.2 _ _ _ _ _ _ h.blk e
   · have:=(h.own_lt e).2;omega
end
structure GlobT (B:Nat) (w:World):Prop extends GlobE B w where
 hB2:19≤B
 levels:∀ i (hi:i < levelsL.length),∃ v,w.cell? ⟨10,i,none⟩=some v∧StrsAt w (Lo B) v levelsL[i]
 shape:∃ te pe,w.cell? ⟨0,0,none⟩=some (.iface te pe)
 pow:Lib.TabIs Tryz.prog w "internal/strconv.uint64pow10" .u64 Lib.pow10Tab
theorem powNamed:Tryz.prog.globalNamed "internal/strconv.uint64pow10" =some 12:=by kernel_rfl
theorem tab_block {w w':World} (h:w'.heap[12]? =w.heap[12]?) (ht:Lib.TabIs Tryz.prog w "internal/strconv.uint64pow10" .u64 Lib.pow10Tab):Lib.TabIs Tryz.prog w' "internal/strconv.uint64pow10" .u64 Lib.pow10Tab:=by
 unfold Lib.TabIs at ht ⊢
 rw [← ht]
 simp only [World.var?,powNamed,Option.bind_some,h]
theorem GlobT.below {B:Nat} {w w':World} (h:GlobT B w) (hb:Below B w w'):GlobT B w':=by
 have hB:=h.hB2
 refine ⟨h.toGlobE.below hb,h.hB2,fun i hi=> ?_,?_,tab_block (hb.block _ (by omega)) h.pow⟩
 · obtain ⟨v,h1,h2⟩:=h.levels i hi
   exact ⟨v,(hb.cell (p:=⟨10,i,none⟩) (by show 10 < B;omega)).trans h1,h2.below hb⟩
 · obtain ⟨te,pe,h1⟩:=h.shape
   exact ⟨te,pe,(hb.cell (p:=⟨0,0,none⟩) (by show 0 < B;omega)).trans h1⟩
theorem GlobT.mono {B B':Nat} {w:World} (h:GlobT B w) (hB:B≤B'):GlobT B' w:=by
 have h2:=h.hB2
 exact ⟨h.toGlobE.mono hB,by omega,fun i hi=>by
  obtain ⟨v,h1,h2⟩:=h.levels i hi
  exact ⟨v,h1,h2.mono (fun _ _ _=>rfl) fun b hb=>Nat.lt_of_lt_of_le hb hB⟩,h.shape,h.pow⟩
end Go.Proofs.YtdoaeapahgmfoaaGreatDoor
namespace Go.Proofs.YtdoaeapahgmfoaaGreatDoor
open Go.RowKit
set_option maxRecDepth 100000 in
set_option maxHeartbeats 20000000 in
theorem slIndex_any {w:World} (zs:List (List UInt8)) (v:Value) (s:List UInt8) (G:Nat→Prop) (hz:StrsAt w G v zs) (hl:zs.length≤140737488355328):
 Calls Tryz.prog 76 #[v,.string (toBA s)] w fun e w'=>e= .returned (.int .i64 (indexL zs s))∧w=w':=by
 obtain ⟨a,c,rfl,hr⟩:=hz
 have Hr:=Lib.hid hr;clear hr
 go_enter Tryz.func76,Tryz.ntmps76
 go_wp2_with fail
 go_loop [5,8] (fun _ i=>∃ j:Nat,j≤zs.length∧i= .int .i64 j∧∀ i (hi:i < zs.length),i < j→zs[i]≠s) (fun _ i=>zs.length - (intOf i).toNat)
 case atStart=>exact ⟨0,by omega,rfl,fun _ _ h=>absurd h (by omega)⟩
 case round=>
  obtain ⟨j,hj,rfl,hno⟩:=hrel
  have Hno:=Lib.hid hno;clear hno
  by_cases hjl:j < zs.length
  · have t1:decide ((j:Int) < (zs.length:Int))=true:=by simp;omega
    obtain ⟨b,o,rfl,_,hc⟩:=Hr.out.2 (by omega)
    have q:=hc j hjl
    clear hc
    by_cases he:zs[j]=s
    · have hix:indexL zs s=(j:Int):=by unfold indexL;rw [findIdx_take hjl Hno.out he]
      have Hix:=Lib.hid hix;clear hix
      rw [he] at q
      have u1:((toBA s).toList == (toBA s).toList)=true:=by simp
      go_wp2_with fail
      refine bodyPost_ret (results_tmp rfl _ _ _) rfl ?_
      exact ⟨by rw [Hix.out];rfl,rfl⟩
    · have u1:((toBA s).toList == (toBA zs[j]).toList)=false:=by rw [m_toList,m_toList];simp [Ne.symm he]
      have He:=Lib.hid he;clear he
      go_wp2_with fail
      go_round
      case rel=>
       refine ⟨j+1,by omega,by go_num,fun i hi h=> ?_⟩
       rcases Nat.lt_or_ge i j with h' | h'
       · exact Hno.out i hi h'
       · have:i=j:=by omega
         subst this
         exact He.out
      case measure=>simp [intOf];omega
  · have t1:decide ((j:Int) < (zs.length:Int))=false:=by simp;omega
    have hix:indexL zs s= -1:=by unfold indexL;rw [findIdx_none fun i hi=>Hno.out i hi (by omega)]
    have Hix:=Lib.hid hix;clear hix
    go_wp2_with fail
    refine bodyPost_ret (results_tmp rfl _ _ _) rfl ?_
    exact ⟨by rw [Hix.out];rfl,rfl⟩
set_option maxRecDepth 100000 in
set_option maxHeartbeats 20000000 in
theorem has_any {w:World} (zs:List (List UInt8)) (v:Value) (s:List UInt8) (G:Nat→Prop) (hz:StrsAt w G v zs) (hl:zs.length≤140737488355328):
 Calls Tryz.prog 41 #[v,.string (toBA s)] w fun e w'=>e= .returned (.bool (zs.contains s))∧w=w':=by
 have hh:=indexL_has zs s
 go_enter Tryz.func41,Tryz.ntmps41
 have Hh:=Lib.hid hh;clear hh
 go_wp2_with fail
 refine (slIndex_any zs v s G hz hl).mono ?_
 rintro e w2 ⟨rfl,rfl⟩
 rcases hb:decide (0≤indexL zs s) with _ | _
 · have Hb:=Lib.hid (Hh.out.symm.trans hb)
   go_wp2_with fail
   refine bodyPost_ret (results_tmp rfl _ _ _) rfl ?_
   exact ⟨by rw [Hb.out];rfl,rfl⟩
 · have Hb:=Lib.hid (Hh.out.symm.trans hb)
   go_wp2_with fail
   refine bodyPost_ret (results_tmp rfl _ _ _) rfl ?_
   exact ⟨by rw [Hb.out];rfl,rfl⟩
end Go.Proofs.YtdoaeapahgmfoaaGreatDoor

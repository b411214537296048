/- StmtsOf: the walk. otherStmts: what its loop holds. -/
import Derived.Test.YtdoaeapahgmfoaaGreatDoorZ47
namespace Go.Proofs.YtdoaeapahgmfoaaGreatDoor
open Go.RowKit
def Gx (B:Nat) (W:World) (x:Nat):Nat→Prop:=fun b=>B≤b∧b < W.heap.size∧b≠x
def StBox (wr:World) (s:Stm) (p:Value) (W:World):Prop:=∃ x vl vb ve,p= .pointer (some ⟨x,0,none⟩)∧W.heap[x]? =some (.cells #[.string (toBA s.kind),.string (toBA s.name),.slice none 0 0,vl,vb,ve] 82 (0,0))∧
 Below wr.heap.size wr W∧wr.heap.size≤x∧ExsAt W (Gx wr.heap.size W x) vl s.l∧StmsAt W (Gx wr.heap.size W x) vb s.body∧StmsAt W (Gx wr.heap.size W x) ve s.els
theorem stBox_mk {wr wL wB wE W:World} {s:Stm} {x sL sB sE:Nat} {vl vb ve:Value} (h1:Below wL.heap.size wL wE) (h2:Below wB.heap.size wB wE) (hL:ExsAt wL (fun b=>sL≤b∧b < wL.heap.size) vl s.l) (hB:StmsAt wB (fun b=>sB≤b∧b < wB.heap.size) vb s.body)
 (hE:StmsAt wE (fun b=>sE≤b∧b < wE.heap.size) ve s.els) (eL:wr.heap.size≤sL) (eB:wr.heap.size≤sB) (eE:wr.heap.size≤sE) (xL:x < sL∨wL.heap.size≤x) (xB:x < sB∨wB.heap.size≤x) (xE:x < sE∨wE.heap.size≤x)
 (hW:∀ b,b≠x→b < wE.heap.size→W.heap[b]? =wE.heap[b]?) (hs:wE.heap.size≤W.heap.size) (hx:W.heap[x]? =some (.cells #[.string (toBA s.kind),.string (toBA s.name),.slice none 0 0,vl,vb,ve] 82 (0,0)))
 (hb:Below wr.heap.size wr W) (hxr:wr.heap.size≤x):StBox wr s (.pointer (some ⟨x,0,none⟩)) W:=by
 have z1:=h1.size
 have z2:=h2.size
 refine ⟨x,vl,vb,ve,rfl,hx,hb,hxr,?_,?_,?_⟩
 · refine hL.mono (fun b o hb=> ?_) fun b hb=>⟨by omega,by omega,by omega⟩
   rw [World.cell?_of_block (a:=⟨b,o,none⟩) (hW b (by omega) (by omega))]
   exact h1.cell (p:=⟨b,o,none⟩) hb.2
 · refine hB.mono (fun b o hb=> ?_) fun b hb=>⟨by omega,by omega,by omega⟩
   rw [World.cell?_of_block (a:=⟨b,o,none⟩) (hW b (by omega) (by omega))]
   exact h2.cell (p:=⟨b,o,none⟩) hb.2
 · refine hE.mono (fun b o hb=> ?_) fun b hb=>⟨by omega,by omega,by omega⟩
   exact World.cell?_of_block (a:=⟨b,o,none⟩) (hW b (by omega) (by omega))
def StBox2 (wr:World) (s:Stm) (x:Nat) (W:World):Prop:=∃ v:SV,W.heap[x]? =some (.cells #[.string (toBA s.kind),.string (toBA s.name),v.p,v.l,v.b,v.e] 82 (0,0))∧Below wr.heap.size wr W∧wr.heap.size≤x∧SvAt W (Gx wr.heap.size W x) v s
theorem stBox2_mk {wr wc W:World} {s:Stm} {x:Nat} {vl vb ve vp:Value} (hblk:wc.heap[x]? =some (.cells #[.string (toBA s.kind),.string (toBA s.name),.slice none 0 0,vl,vb,ve] 82 (0,0))) (hbc:Below wr.heap.size wr wc) (hxr:wr.heap.size≤x)
 (hl:ExsAt wc (Gx wr.heap.size wc x) vl s.l) (hb:StmsAt wc (Gx wr.heap.size wc x) vb s.body) (he:StmsAt wc (Gx wr.heap.size wc x) ve s.els) (hW:Below wc.heap.size wc W) (hp:StrsAt W (Gx wr.heap.size W x) vp s.p):StBox2 wr s x (W.setCell ⟨x,2,none⟩ vp):=by
 have hx:=lt_of_blk hblk
 have hs:=hW.size
 have hsc:∀ (o2 b:Nat),b≠x→(W.setCell ⟨x,2,none⟩ vp).cell? ⟨b,o2,none⟩=W.cell? ⟨b,o2,none⟩:=fun o2 b hb=>World.cell?_of_block (Below.heap_setCell W ⟨x,2,none⟩ vp b hb)
 have hc:∀ b o,Gx wr.heap.size wc x b→(W.setCell ⟨x,2,none⟩ vp).cell? ⟨b,o,none⟩=wc.cell? ⟨b,o,none⟩:=fun b o hb=>by
  rw [hsc o b hb.2.2]
  exact hW.cell (p:=⟨b,o,none⟩) hb.2.1
 have hG:∀ b,Gx wr.heap.size wc x b→Gx wr.heap.size (W.setCell ⟨x,2,none⟩ vp) x b:=fun b hb=>⟨hb.1,by have:=hb.2.1;simp;omega,hb.2.2⟩
 refine ⟨⟨vp,vl,vb,ve⟩,heap_setCell_at (o:=2) (v:=vp) ((hW.block x hx).trans hblk),((below_grow hbc hbc.size hW).setCell (p:=⟨x,2,none⟩) hxr _),hxr,?_,hl.mono hc hG,hb.mono hc hG,he.mono hc hG⟩
 exact hp.mono (fun b o hb=>hsc o b hb.2.2) fun b hb=>⟨hb.1,by simpa using hb.2.1,hb.2.2⟩
theorem StBox2.drew {wr:World} {s:Stm} {x:Nat} {W:World} (h:StBox2 wr s x W):StBox2 wr s x W.drew:=by
 obtain ⟨v,h1,h2,h3,h4⟩:=h
 exact ⟨v,h1,h2.drew,h3,SvAt.mono (w:=W) (w':=W.drew) (fun _ _ _=>rfl) (fun _ h=>h) h4⟩
def set6 (w:World) (x:Nat) (a b c d e f:Value):World:=(((((w.setCell ⟨x,0,none⟩ a).setCell ⟨x,1,none⟩ b).setCell ⟨x,2,none⟩ c).setCell ⟨x,3,none⟩ d).setCell ⟨x,4,none⟩ e).setCell ⟨x,5,none⟩ f
theorem set6_heap {w:World} {x:Nat} {a b c d e f z0 z1 z2 z3 z4 z5:Value} {T:TypeId} (h:w.heap[x]? =some (.cells #[z0,z1,z2,z3,z4,z5] T (0,0))):(set6 w x a b c d e f).heap[x]? =some (.cells #[a,b,c,d,e,f] T (0,0)):=by
 have k0:=heap_setCell_at (o:=0) (v:=a) h
 have k1:=heap_setCell_at (o:=1) (v:=b) k0
 have k2:=heap_setCell_at (o:=2) (v:=c) k1
 have k3:=heap_setCell_at (o:=3) (v:=d) k2
 have k4:=heap_setCell_at (o:=4) (v:=e) k3
 exact heap_setCell_at (o:=5) (v:=f) k4
theorem set6_other {w:World} {x k:Nat} {a b c d e f:Value} (h:k≠x):(set6 w x a b c d e f).heap[k]? =w.heap[k]? :=by
 unfold set6
 rw [Below.heap_setCell _ _ _ _ h,Below.heap_setCell _ _ _ _ h,Below.heap_setCell _ _ _ _ h,Below.heap_setCell _ _ _ _ h,Below.heap_setCell _ _ _ _ h,Below.heap_setCell _ _ _ _ h]
theorem set6_size {w:World} {x:Nat} {a b c d e f:Value}:(set6 w x a b c d e f).heap.size=w.heap.size:=by simp [set6]
theorem set6_below {w w0:World} {B x:Nat} {a b c d e f:Value} (h:Below B w0 w) (hx:B≤x):Below B w0 (set6 w x a b c d e f):=
 (((((h.setCell (p:=⟨x,0,none⟩) hx _).setCell (p:=⟨x,1,none⟩) hx _).setCell (p:=⟨x,2,none⟩) hx _).setCell (p:=⟨x,3,none⟩) hx _).setCell (p:=⟨x,4,none⟩) hx _).setCell (p:=⟨x,5,none⟩) hx _
set_option maxRecDepth 100000 in
set_option maxHeartbeats 20000000 in
theorem stmtsOf_any:∀ (k:Nat) (l:List Stm) (w:World) (v:Value),stmsNodes l≤k→stmsBulk l≤1100000→StmsAt w (Lo w.heap.size) v l→
 Calls Tryz.prog 12 #[v] w (StmtsPost w l):=by
 intro k
 induction k with
 | zero=>
   intro l w v hk hbulk hl
   obtain ⟨a,c,rfl,hrow⟩:=hl
   rcases l with _ | ⟨e,r⟩
   · clear hrow
     go_enter Tryz.func12,Tryz.ntmps12
     go_wp2_with fail
     go_loop [3,4] (fun o i=>o= .slice none 0 0∧i= .int .i64 0) (fun _ _=>0)
     case atStart=>exact ⟨rfl,rfl⟩
     case round=>
      obtain ⟨rfl,rfl⟩:=hrel
      go_wp2_with fail
      refine bodyPost_ret (results_tmp rfl _ _ _) rfl ?_
      exact ⟨Below.refl _ _,_,rfl,none,0,rfl,fun hp=>by simp at hp⟩
   · exfalso;unfold stmsNodes at hk;rw [Stm.nodes_eq] at hk;omega
 | succ k ih=>
   intro l w v hk hbulk hl
   obtain ⟨a,c,rfl,hrow⟩:=hl
   have hll:=stmsBulk_len l
   have Hih:=Lib.hid ih;have Hrow:=Lib.hid hrow
   have hlb:l.length≤1100000:=by omega
   clear ih hrow
   go_enter Tryz.func12,Tryz.ntmps12
   go_wp2_with fail
   go_loopw [3,4] (fun o i wr=>∃ (j:Nat) (ps:List SV),j≤l.length∧i= .int .i64 j∧StSt w wr o (l.take j) ps) (fun _ i _=>l.length - (intOf i).toNat)
   case atStart=>exact ⟨0,[],by omega,rfl,⟨rfl,World.ownsRow_nil _ _ _ _,Below.refl _ _,fun i h=>by simp at h⟩⟩
   case round=>
    obtain ⟨j,ps,hj,rfl,hS⟩:=hrel
    have hbel:=hS.below
    by_cases hjl:j < l.length
    · have t1:decide ((j:Int) < (l.length:Int))=true:=by simp;omega
      obtain ⟨b,o,rfl,hbB,hr⟩:=Hrow.out (by omega)
      obtain ⟨vp,vl,vb,ve,q0,q1,q2,q3,q4,q5,hp,hx,hbd,hel⟩:=(hr.at_ _ _ _ j hjl).open_
      have hbl':b < w.heap.size:=hbB
      have q0:=(hbel.cell (p:=⟨b,_,none⟩) hbl').trans q0
      have q1:=(hbel.cell (p:=⟨b,_,none⟩) hbl').trans q1
      have q3:=(hbel.cell (p:=⟨b,_,none⟩) hbl').trans q3
      have q4:=(hbel.cell (p:=⟨b,_,none⟩) hbl').trans q4
      have q5:=(hbel.cell (p:=⟨b,_,none⟩) hbl').trans q5
      have hm:=stms_mem (List.getElem_mem hjl)
      have hne:=Stm.nodes_eq l[j]
      have hbe:=Stm.bulk_eq l[j]
      have hwr:=hbel.size
      have hblr:b < wr.heap.size:=by omega
      have hj0:(0:Int)≤(j:Int):=Int.natCast_nonneg _
      have hj1:(j:Int) < (l.length:Int):=by omega
      have hS5:∀ w':World,Below wr.heap.size wr w'→w'.cell? ⟨b,o+j * 6,none⟩=some (.string (toBA l[j].kind))∧w'.cell? ⟨b,o+j * 6+1,none⟩=some (.string (toBA l[j].name))∧w'.cell? ⟨b,o+j * 6+3,none⟩=some vl∧w'.cell? ⟨b,o+j * 6+4,none⟩=some vb∧w'.cell? ⟨b,o+j * 6+5,none⟩=some ve∧b < w'.heap.size:=fun w' hbw=>
       ⟨(hbw.cell (p:=⟨b,_,none⟩) hblr).trans q0,(hbw.cell (p:=⟨b,_,none⟩) hblr).trans q1,(hbw.cell (p:=⟨b,_,none⟩) hblr).trans q3,(hbw.cell (p:=⟨b,_,none⟩) hblr).trans q4,(hbw.cell (p:=⟨b,_,none⟩) hblr).trans q5,by have:=hbw.size;omega⟩
      have hcL:∀ W:World,Below wr.heap.size wr W→Calls Tryz.prog 36 #[vl] W fun e w'=>∃ a2 c2,e= .returned (.slice a2 l[j].l.length c2)∧Hid (ExsAt w' (fun b=>W.heap.size≤b∧b < w'.heap.size) (.slice a2 l[j].l.length c2) l[j].l)∧Hid (Below W.heap.size W w')∧Hid (Below wr.heap.size wr w')∧
       w'.cell? ⟨b,o+j * 6,none⟩=some (.string (toBA l[j].kind))∧w'.cell? ⟨b,o+j * 6+1,none⟩=some (.string (toBA l[j].name))∧w'.cell? ⟨b,o+j * 6+3,none⟩=some vl∧w'.cell? ⟨b,o+j * 6+4,none⟩=some vb∧w'.cell? ⟨b,o+j * 6+5,none⟩=some ve∧b < w'.heap.size:=fun W hW=>by
       have hq:=below_grow hbel hwr hW
       refine (exprsOf_any _ l[j].l W vl (Nat.le_refl _) (by omega) (hx.lift hq hq.size)).mono ?_
       rintro e w' ⟨hb,v,rfl,a2,c2,rfl,hc2,hr2⟩
       have hbw:=below_grow hW hW.size hb
       exact ⟨a2,c2,rfl,Lib.hid ⟨a2,c2,rfl,hc2,hr2⟩,Lib.hid hb,Lib.hid hbw,hS5 w' hbw⟩
      have hcS:∀ (t:List Stm) (vt:Value),stmsNodes t≤k→stmsBulk t≤1100000→StmsAt w (Lo w.heap.size) vt t→∀ W:World,Below wr.heap.size wr W→Calls Tryz.prog 12 #[vt] W fun e w'=>∃ a2 c2,e= .returned (.slice a2 t.length c2)∧Hid (StmsAt w' (fun b=>W.heap.size≤b∧b < w'.heap.size) (.slice a2 t.length c2) t)∧Hid (Below W.heap.size W w')∧Hid (Below wr.heap.size wr w')∧
       w'.cell? ⟨b,o+j * 6,none⟩=some (.string (toBA l[j].kind))∧w'.cell? ⟨b,o+j * 6+1,none⟩=some (.string (toBA l[j].name))∧w'.cell? ⟨b,o+j * 6+3,none⟩=some vl∧w'.cell? ⟨b,o+j * 6+4,none⟩=some vb∧w'.cell? ⟨b,o+j * 6+5,none⟩=some ve∧b < w'.heap.size:=fun t vt ht1 ht2 ht3 W hW=>by
       have hq:=below_grow hbel hwr hW
       refine (Hih.out t W vt ht1 ht2 (ht3.lift hq hq.size)).mono ?_
       rintro e w' ⟨hb,v,rfl,a2,c2,rfl,hr2⟩
       have hbw:=below_grow hW hW.size hb
       exact ⟨a2,c2,rfl,Lib.hid ⟨a2,c2,rfl,hr2⟩,Lib.hid hb,Lib.hid hbw,hS5 w' hbw⟩
      have hcB:=hcS l[j].body vb (by omega) (by omega) hbd
      have hcE:=hcS l[j].els ve (by omega) (by omega) hel
      have HL:=Lib.hid hcL;have HB:=Lib.hid hcB;have HE:=Lib.hid hcE;have Hp:=Lib.hid hp;have Hq2:=Lib.hid q2
      clear hcL hcS hcB hcE hx hp hbd hel q2 hr hm hne hbe hS5
      go_upto_region 5 with fail
      go_cut [5] (fun p W=>StBox wr l[j] p W)
      case first=>
       have hall:∀ (W:World) (ob:Obj) (o':Nat),b < W.heap.size→(W.alloc ob).cell? ⟨b,o',none⟩=W.cell? ⟨b,o',none⟩:=fun W ob o' h=>World.cell?_alloc_lt W ob ⟨b,o',none⟩ h
       have hset:∀ (x:Nat) (hk:b≠x) (W:World) (o1 o2:Nat) (u:Value),(W.setCell ⟨x,o1,none⟩ u).cell? ⟨b,o2,none⟩=W.cell? ⟨b,o2,none⟩:=fun x hk W o1 o2 u=>World.cell?_of_block (Below.heap_setCell W ⟨x,o1,none⟩ u b hk)
       go_region_held3 (fun w'=>w'.cell? ⟨b,o+j * 6,none⟩=some (.string (toBA l[j].kind))∧w'.cell? ⟨b,o+j * 6+1,none⟩=some (.string (toBA l[j].name))∧w'.cell? ⟨b,o+j * 6+3,none⟩=some vl∧w'.cell? ⟨b,o+j * 6+4,none⟩=some vb∧w'.cell? ⟨b,o+j * 6+5,none⟩=some ve)
        (first
          | go_keep
          | (go_split_ands
             refine ⟨?_,?_,?_,?_,?_⟩ <;> (first | (rw [hall wE _ _ (by omega)];assumption) | (rw [hall wB _ _ (by omega)];assumption) | (rw [hall wL _ _ (by omega)];assumption) | (simp only [hset wr.heap.size (by omega)];assumption) | (simp only [hset wL.heap.size (by omega)];assumption) | (simp only [hset wB.heap.size (by omega)];assumption))))
        ((first
          | (go_at_call 36;(with_reducible refine (HL.out _ ?_).mono ?_);(first | exact (Below.refl _ _).drew | exact ((Below.refl _ _).drew.alloc (Nat.le_refl _) _));rintro e wL ⟨aL,cL,rfl,hxL,hbL,hwL,k0,k1,k3,k4,k5,kl⟩;try (have hzL:=(hbL.out.block wr.heap.size (by simp)).trans (heap_alloc_new wr.drew _)))
          | (go_at_call 12;(with_reducible refine (HB.out _ ?_).mono ?_);(first | exact hwL.out | exact hwL.out.alloc hwL.out.size _);rintro e wB ⟨aB,cB,rfl,hxB,hbB2,hwB,k0,k1,k3,k4,k5,kl⟩;(first | (have hzB:=(hbB2.out.block wL.heap.size (by simp)).trans (heap_alloc_new wL _)) | (have hzB:=(hbB2.out.block _ (lt_of_blk hzL)).trans hzL) | skip))
          | (go_at_call 12;(with_reducible refine (HE.out _ ?_).mono ?_);(first | exact hwB.out | exact hwB.out.alloc hwB.out.size _);rintro e wE ⟨aE,cE,rfl,hxE,hbE,hwE,k0,k1,k3,k4,k5,kl⟩;(first | (have hzE:=(hbE.out.block wB.heap.size (by simp)).trans (heap_alloc_new wB _)) | (have hzE:=(hbE.out.block _ (lt_of_blk hzB)).trans hzB) | skip);(try (have fz0:=frozen_of_blk (o:=0) hzE;have fz1:=frozen_of_blk (o:=1) hzE;have fz2:=frozen_of_blk (o:=2) hzE;have fz3:=frozen_of_blk (o:=3) hzE;have fz4:=frozen_of_blk (o:=4) hzE;have fz5:=frozen_of_blk (o:=5) hzE;have zl:=lt_of_blk hzE;have cz0:=cell_of_blk (o:=0) hzE;have cz1:=cell_of_blk (o:=1) hzE;have cz2:=cell_of_blk (o:=2) hzE;have cz3:=cell_of_blk (o:=3) hzE;have cz4:=cell_of_blk (o:=4) hzE;have cz5:=cell_of_blk (o:=5) hzE)))))
       · go_wp2_with fail
         go_meet
         case rel=>
          have n1:=hbL.out.size
          have n2:=hbB2.out.size
          have n3:=hbE.out.size
          have m1:=hwL.out.size
          have m2:=hwB.out.size
          have m3:=hwE.out.size
          simp at n1 n2 n3
          exact stBox_mk (wL:=wL) (wB:=wB) (wE:=wE) (below_grow hbB2.out hbB2.out.size hbE.out) (hbE.out) hxL.out hxB.out hxE.out (by first | omega | (simp;omega) | simp) (by first | omega | (simp;omega) | simp) (by first | omega | (simp;omega) | simp) (.inr (by omega)) (.inr (by omega)) (.inr (by omega)) (fun b _ hb=>Below.heap_alloc _ _ _ hb) (by simp) (heap_alloc_new _ _) (hwE.out.alloc hwE.out.size _) hwE.out.size
       · go_wp2_with fail
         go_meet
         case rel=>
          have n1:=hbL.out.size
          have n2:=hbB2.out.size
          have n3:=hbE.out.size
          have m1:=hwL.out.size
          have m2:=hwB.out.size
          have m3:=hwE.out.size
          simp at n1 n2 n3
          have hmk:=stBox_mk (wr:=wr) (s:=l[j]) (x:=wB.heap.size) (W:=set6 wE wB.heap.size (.string (toBA l[j].kind)) (.string (toBA l[j].name)) (.slice none 0 0) (.slice aL l[j].l.length cL) (.slice aB l[j].body.length cB) (.slice aE l[j].els.length cE)) (wL:=wL) (wB:=wB) (wE:=wE) (below_grow (below_grow hbB2.out hbB2.out.size ((Below.refl wB.heap.size wB).alloc (Nat.le_refl _) _)) (by first | omega | (simp;omega) | simp) hbE.out) (below_grow ((Below.refl wB.heap.size wB).alloc (Nat.le_refl _) _) (by first | omega | (simp;omega) | simp) hbE.out) hxL.out hxB.out hxE.out (by first | omega | (simp;omega) | simp) (by first | omega | (simp;omega) | simp) (by first | omega | (simp;omega) | simp) (.inr (by omega)) (.inr (by omega)) (.inl (by first | omega | (simp;omega) | simp)) (fun b hb _=>set6_other hb) (by rw [set6_size];exact Nat.le_refl _) (set6_heap hzE) (set6_below hwE.out (by omega)) (by omega)
          exact hmk
       · go_wp2_with fail
         go_meet
         case rel=>
          have n1:=hbL.out.size
          have n2:=hbB2.out.size
          have n3:=hbE.out.size
          have m1:=hwL.out.size
          have m2:=hwB.out.size
          have m3:=hwE.out.size
          simp at n1 n2 n3
          have hmk:=stBox_mk (wr:=wr) (s:=l[j]) (x:=wL.heap.size) (W:=set6 wE wL.heap.size (.string (toBA l[j].kind)) (.string (toBA l[j].name)) (.slice none 0 0) (.slice aL l[j].l.length cL) (.slice aB l[j].body.length cB) (.slice aE l[j].els.length cE)) (wL:=wL) (wB:=wB) (wE:=wE) (below_grow (below_grow ((Below.refl wL.heap.size wL).alloc (Nat.le_refl _) _) (by first | omega | (simp;omega) | simp) hbB2.out) (by first | omega | (simp;omega) | simp) hbE.out) (hbE.out) hxL.out hxB.out hxE.out (by first | omega | (simp;omega) | simp) (by first | omega | (simp;omega) | simp) (by first | omega | (simp;omega) | simp) (.inr (by omega)) (.inl (by first | omega | (simp;omega) | simp)) (.inl (by omega)) (fun b hb _=>set6_other hb) (by rw [set6_size];exact Nat.le_refl _) (set6_heap hzE) (set6_below hwE.out (by omega)) (by omega)
          exact hmk
       · go_wp2_with fail
         go_meet
         case rel=>
          have n1:=hbL.out.size
          have n2:=hbB2.out.size
          have n3:=hbE.out.size
          have m1:=hwL.out.size
          have m2:=hwB.out.size
          have m3:=hwE.out.size
          simp at n1 n2 n3
          have hmk:=stBox_mk (wr:=wr) (s:=l[j]) (x:=wr.heap.size) (W:=set6 wE wr.heap.size (.string (toBA l[j].kind)) (.string (toBA l[j].name)) (.slice none 0 0) (.slice aL l[j].l.length cL) (.slice aB l[j].body.length cB) (.slice aE l[j].els.length cE)) (wL:=wL) (wB:=wB) (wE:=wE) (below_grow hbB2.out hbB2.out.size hbE.out) (hbE.out) hxL.out hxB.out hxE.out (by first | omega | (simp;omega) | simp) (by first | omega | (simp;omega) | simp) (by first | omega | (simp;omega) | simp) (.inl (by first | omega | (simp;omega) | simp)) (.inl (by omega)) (.inl (by omega)) (fun b hb _=>set6_other hb) (by rw [set6_size];exact Nat.le_refl _) (set6_heap hzE) (set6_below hwE.out (by omega)) (by omega)
          exact hmk
      case rest=>
       obtain ⟨x,vl2,vb2,ve2,rfl,hblk,hbc,hxr,hxl,hxb,hxe⟩:=hcut
       have hbcw:=below_grow hbel hwr hbc
       have q2:wc.cell? ⟨b,o+j * 6+2,none⟩=some vp:=(hbcw.cell (p:=⟨b,_,none⟩) hbl').trans Hq2.out
       have c3:=cell_of_blk (o:=2) hblk
       have f3:=frozen_of_blk (o:=2) hblk
       have hxc:=lt_of_blk hblk
       obtain ⟨ap,cp,rfl,hpcap,hps⟩:=Hp.out
       have Hps:=Lib.hid hps;have Hxl:=Lib.hid hxl;have Hxb:=Lib.hid hxb;have Hxe:=Lib.hid hxe;have Hblk:=Lib.hid hblk
       clear hps hxl hxb hxe hblk
       go_upto_region 6 with fail
       go_cut [] (fun W=>StBox2 wr l[j] x W)
       case first=>
        by_cases hpn:l[j].p.length=0
        · rw [hpn] at q2
          go_region_law ((refine step_append_none (by rfl) _ _ (by rfl) ap cp (by rfl) (by rfl) ?_))
          all_goals
           (go_wp2_with fail
            go_meet
            case rel=>exact (stBox2_mk Hblk.out hbc hxr Hxl.out Hxb.out Hxe.out (Below.refl _ _) ⟨none,0,by rw [hpn],by omega,fun hp=>by omega⟩).drew)
        · obtain ⟨bp,op,rfl,hbpB,hz⟩:=Hps.out (by omega)
          have hbp:bp < w.heap.size:=hbpB
          have hnews:∀ j' u,(l[j].p.map fun s=>Value.string (toBA s))[j']? =some u→wc.cell? ((⟨bp,op,none⟩:Addr).add j')=some u:=strs_news l[j].p wc bp op fun j' hj'=>(hbcw.cell (p:=⟨bp,_,none⟩) hbp).trans (hz j' hj')
          obtain ⟨is,his,hs0,hs1,hs2⟩:=info_parts Tryz.infoStrg
          have hplen:l[j].p.length≤1100000:=by
           have:=strsBulk_len l[j].p
           have:=stms_mem (List.getElem_mem hjl)
           have:=Stm.bulk_eq l[j]
           omega
          have Hz:=Lib.hid hz;have Hn:=Lib.hid hnews
          clear hz hnews
          go_region_law ((refine step_append_lies _ (by rfl) _ _ _ (by rfl) wc.heap.size 9 is _ 1 16 Tryz.underlying36 his hs0 hs1 hs2 rfl (by decide) (.slice none 0 0) 0 [] (by rfl) (World.ownsRow_nil _ _ _ _) ⟨bp,op,none⟩ l[j].p.length cp (l[j].p.map fun s=>Value.string (toBA s)) (by rfl) (by simp) (fun j' u hu=>Hn.out j' u hu) (by intro u hu;obtain ⟨s,_,rfl⟩:=List.mem_map.1 hu;rfl) (by omega) (by unfold maxLen;omega) (by omega) (Nat.le_refl _) wc.heap.size (by rfl) ?_;intro g5 cap5 w5 hown5 hgrow5 hat5 hlt5;have hbl5:=grown_nil hgrow5;have hz5:=(hbl5.block x hxc).trans Hblk.out;have c5:=frozen_of_blk (o:=2) hz5;have c6:=cell_of_blk (o:=2) hz5;have c7:=lt_of_blk hz5))
          all_goals
           (have hp5:StrsAt w5 (Gx wr.heap.size w5 x) (.slice (some ⟨g5,0,none⟩) l[j].p.length cap5) l[j].p:=by
             have h1:w5.ownsRow wc.heap.size 9 1 (.slice (some ⟨g5,0,none⟩) l[j].p.length cap5) l[j].p.length (l[j].p.map fun s=>Value.string (toBA s)):=by simpa using hown5
             have hbcs:=hbc.size
             exact (strs_own h1).mono (fun _ _ _=>rfl) fun b hb=>⟨Nat.le_trans hbcs hb.1,hb.2,by have:=hb.1;omega⟩
            have Hp5:=Lib.hid hp5
            clear hp5 hown5
            go_wp2_with fail
            go_meet
            case rel=>exact stBox2_mk Hblk.out hbc hxr Hxl.out Hxb.out Hxe.out hbl5 Hp5.out)
       case rest=>
        obtain ⟨⟨wp,wl,wb,we⟩,hblk2,hbc2,hxr2,hv2⟩:=hcut
        have Hv2:=Lib.hid hv2
        obtain ⟨hp2,hl2,hb2,he2⟩:=hv2
        obtain ⟨ap2,cp2,rfl,_⟩:=hp2
        obtain ⟨al2,cl2,rfl,_⟩:=hl2
        obtain ⟨ab2,cb2,rfl,_⟩:=hb2
        obtain ⟨ae2,ce2,rfl,_⟩:=he2
        have hS2:=hS.grow hbc2
        have d0:=cell_of_blk (o:=0) hblk2
        have d1:=cell_of_blk (o:=1) hblk2
        have d2:=cell_of_blk (o:=2) hblk2
        have d3:=cell_of_blk (o:=3) hblk2
        have d4:=cell_of_blk (o:=4) hblk2
        have d5:=cell_of_blk (o:=5) hblk2
        have hll2:(l.take j).length≤1100000:=by simp;omega
        have hS2s:=hS2.below.size
        obtain ⟨i2,hi2,hy0,hy1,hy2⟩:=info_parts Tryz.infoPSt
        clear hblk2 q2 c3 f3
        go_wp2_with (at_builtin;refine wpList_append_lies (wc.alloc (.cells #[.string (toBA l[j].kind),.string (toBA l[j].name),.slice ap2 l[j].p.length cp2,.slice al2 l[j].l.length cl2,.slice ab2 l[j].body.length cb2,.slice ae2 l[j].els.length ce2] 82)) rfl (.tmp 50) (.tmp 52) 30 rfl w.heap.size 82 i2 _ 6 128 Tryz.underlying30 hi2 hy0 hy1 hy2 rfl (by decide) _ (l.take j).length (stCells (l.take j) ps) rfl (hS2.own.alloc _) ⟨wc.heap.size,0,none⟩ 1 1 [.string (toBA l[j].kind),.string (toBA l[j].name),.slice ap2 l[j].p.length cp2,.slice al2 l[j].l.length cl2,.slice ab2 l[j].body.length cb2,.slice ae2 l[j].els.length ce2] rfl rfl (World.news_of_block (cs:= #[.string (toBA l[j].kind),.string (toBA l[j].name),.slice ap2 l[j].p.length cp2,.slice al2 l[j].l.length cl2,.slice ab2 l[j].body.length cb2,.slice ae2 l[j].els.length ce2]) (heap_alloc_new wc _)) (by simp [Value.oneCell']) (by decide) (by unfold maxLen;omega) (by omega) (by simp;omega) (wc.heap.size+1) (by simp) ?_;intro g5 cap5 w5 hown5 hgrow5 hat5 hlt5)
        have hGd:∀ b,Gx wr.heap.size wc x b→∀ vo:Value,(∀ k,vo.ownBlock=some k→k < wr.heap.size)→Gd w.heap.size wc vo b:=fun b hb vo hv=>⟨by have:=hb.1;omega,hb.2.1,fun e=>by have:=hv b e;have:=hb.1;omega⟩
        have R4:=hS2.put l[j] _ (Hv2.out.mono (fun _ _ _=>rfl) fun b hb=>hGd b hb _ fun k e=>(hS.own.lt k e).2) hown5 hgrow5 hat5
        rw [← List.take_succ_eq_append_getElem hjl] at R4
        go_roundw
        case rel=>
         have e9:(l.take j).length=j:=by simp;omega
         rw [e9] at R4
         exact ⟨j+1,_,by omega,by go_num,R4⟩
        case measure=>simp [intOf];omega
    · have t1:decide ((j:Int) < (l.length:Int))=false:=by simp;omega
      obtain rfl:j=l.length:=by omega
      rw [List.take_of_length_le (Nat.le_refl _)] at hS
      have Hf:=Lib.hid hS.fin
      clear hS
      go_wp2_with fail
      refine bodyPost_ret (results_tmp rfl _ _ _) rfl ?_
      exact ⟨hbel,_,rfl,Hf.out⟩
end Go.Proofs.YtdoaeapahgmfoaaGreatDoor
namespace Go.Proofs.YtdoaeapahgmfoaaGreatDoor
open Go.RowKit
theorem Tryz.infoRSt:(Tryz.prog.info? 68).map (fun i=>(i.zero,i.size,i.bytes))=some (some (.agg #[.string ⟨#[]⟩,.string ⟨#[]⟩,.slice none 0 0,.slice none 0 0,.slice none 0 0,.slice none 0 0]),6,128):=by kernel_rfl
structure RtSt (w wr:World) (vo:Value) (es:List Stm) (ps:List SV):Prop where
 len:ps.length=es.length
 own:wr.ownsRow w.heap.size 68 6 vo es.length (stCells es ps)
 below:Below w.heap.size w wr
 parts:∀ i (h:i < es.length) (h2:i < ps.length),SvAt wr (Gd w.heap.size wr vo) ps[i] es[i]
theorem RtSt.grow {w wr w1:World} {vo:Value} {es:List Stm} {ps:List SV} (h:RtSt w wr vo es ps) (hb:Below wr.heap.size wr w1):RtSt w w1 vo es ps:=by
 refine ⟨h.len,own_below h.own hb,below_grow h.below h.below.size hb,fun i h1 h2=> ?_⟩
 have a:=h.parts i h1 h2
 have hG:∀ b,Gd w.heap.size wr vo b→Gd w.heap.size w1 vo b:=fun b hb2=>⟨hb2.1,by have:=hb.size;have:=hb2.2.1;omega,hb2.2.2⟩
 have hc:∀ b o,Gd w.heap.size wr vo b→w1.cell? ⟨b,o,none⟩=wr.cell? ⟨b,o,none⟩:=fun b o hb2=>hb.cell (p:=⟨b,o,none⟩) hb2.2.1
 exact a.mono hc hG
theorem RtSt.put {w wr w1:World} {vo:Value} {es:List Stm} {ps:List SV} {ob:Obj} (h:RtSt w wr vo es ps) (e:Stm) (v:SV) {g cap:Nat}
 (hp:SvAt wr (Gd w.heap.size wr vo) v e)
 (hown:w1.ownsRow w.heap.size 68 6 (.slice (some ⟨g,0,none⟩) (es.length+1) cap) (es.length+1) (stCells es ps ++ [.string (toBA e.kind),.string (toBA e.name),v.p,v.l,v.b,v.e]))
 (hg:(wr.alloc ob).grownBy w1 vo.ownBlock) (hat:vo.ownBlock=some g∨g=wr.heap.size+1):
 RtSt w w1 (.slice (some ⟨g,0,none⟩) (es.length+1) cap) (es ++ [e]) (ps ++ [v]):=by
 have hsz:=hg.size
 simp at hsz
 have hG:∀ b,Gd w.heap.size wr vo b→Gd w.heap.size w1 (.slice (some ⟨g,0,none⟩) (es.length+1) cap) b:=fun b hb2=>by
  refine ⟨hb2.1,by have:=hb2.2.1;omega,?_⟩
  intro e1
  simp only [Value.ownBlock,Option.some.injEq] at e1
  subst e1
  rcases hat with h2 | h2
  · exact hb2.2.2 h2
  · have:=hb2.2.1;omega
 have hc:∀ b o,Gd w.heap.size wr vo b→w1.cell? ⟨b,o,none⟩=wr.cell? ⟨b,o,none⟩:=fun b o hb2=>by
  refine World.cell?_of_block ?_
  show w1.heap[b]? =wr.heap[b]?
  rw [hg.block b (by have:=hb2.2.1;simp;omega) (Ne.symm hb2.2.2),Below.heap_alloc _ _ _ hb2.2.1]
 refine ⟨by simp [h.len],?_,below_app h.below h.own hg h.below.size,fun i h1 h2=> ?_⟩
 · rw [stCells_snoc _ _ _ _ h.len,List.length_append]
   exact hown
 · rcases Nat.lt_or_ge i es.length with h' | h'
   · rw [List.getElem_append_left h',List.getElem_append_left (by rw [h.len];exact h')]
     exact (h.parts i h' (by rw [h.len];exact h')).mono hc hG
   · have:i=es.length:=by simp at h1;omega
     subst this
     have e2:(ps ++ [v])[es.length]'h2=v:=by
      rw [List.getElem_append_right (by rw [h.len];exact Nat.le_refl _)]
      simp [h.len]
     rw [List.getElem_append_right (Nat.le_refl _),e2]
     simp only [Nat.sub_self,List.getElem_cons_zero]
     exact hp.mono hc hG
theorem RtSt.fin {w wr:World} {vo:Value} {es:List Stm} {ps:List SV} (h:RtSt w wr vo es ps):StmsAt wr (fun b=>w.heap.size≤b∧b < wr.heap.size) vo es:=by
 have ho:=h.own
 rcases ho.2 with ⟨rfl,h0⟩ | ⟨g,cap,cur,hv,hB,hg,hn',hc,hsz,htake⟩
 · exact ⟨none,0,by rw [h0],fun hp=>by omega⟩
 refine ⟨some ⟨g,0,none⟩,cap,hv,fun _=>⟨g,0,rfl,⟨hB,lt_of_blk hg⟩,StmRow.of _ _ _ fun j hj=> ?_⟩⟩
 have hk:∀ k,k < es.length * 6→wr.cell? ⟨g,k,none⟩=(stCells es ps)[k]? :=by
  intro k hk
  rw [cell_of_blk hg]
  have h1:(cur.toList.take (es.length * 6))[k]? =(stCells es ps)[k]? :=by rw [htake]
  rw [List.getElem?_take_of_lt hk] at h1
  rw [← h1,Array.getElem?_toList]
 obtain ⟨h0,h1,h2,h3,h4,h5⟩:=stCells_at es ps h.len j hj
 have a:=h.parts j hj (by rw [h.len];exact hj)
 have hG:∀ b,Gd w.heap.size wr vo b→w.heap.size≤b∧b < wr.heap.size:=fun b hb2=>⟨hb2.1,hb2.2.1⟩
 have a2:=a.mono (w':=wr) (G':=fun b=>w.heap.size≤b∧b < wr.heap.size) (fun _ _ _=>rfl) hG
 rw [Nat.zero_add]
 exact StmAt.of ((hk _ (by omega)).trans h0) ((hk _ (by omega)).trans h1) ((hk _ (by omega)).trans h2) ((hk _ (by omega)).trans h3) ((hk _ (by omega)).trans h4) ((hk _ (by omega)).trans h5) a2.p a2.l a2.b a2.e
end Go.Proofs.YtdoaeapahgmfoaaGreatDoor

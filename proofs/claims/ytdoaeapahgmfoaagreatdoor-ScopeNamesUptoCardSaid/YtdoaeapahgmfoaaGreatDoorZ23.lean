/- The writer's right: has a statement what its kind names, and nothing else? -/
import Derived.Deep.CutBlock
import Derived.Test.YtdoaeapahgmfoaaGreatDoorZ16
import Derived.Test.YtdoaeapahgmfoaaGreatDoorZ22
namespace Go.Proofs.YtdoaeapahgmfoaaGreatDoor
open Go.RowKit
structure BoxS (W:World) (x bx:Nat) (s:Stm) (ap:Option Addr) (cp:Nat) (al:Option Addr) (cl:Nat) (ab:Option Addr) (cb:Nat) (ae:Option Addr) (ce:Nat):Prop where
 blk:W.heap[bx]? =some (.cells #[.string (toBA s.kind),.string (toBA s.name),.slice ap s.p.length cp,.slice al s.l.length cl,.slice ab s.body.length cb,.slice ae s.els.length ce] 82 (0,0))
 safe:WSafe W x bx
section
variable {W W':World} {x bx:Nat} {s:Stm} {ap:Option Addr} {cp:Nat} {al:Option Addr} {cl:Nat} {ab:Option Addr} {cb:Nat} {ae:Option Addr} {ce:Nat}
theorem BoxS.step (h:BoxS W x bx s ap cp al cl ab cb ae ce) (t:WStp x W W'):BoxS W' x bx s ap cp al cl ab cb ae ce:=⟨(t.safe bx h.safe).2.trans h.blk,(t.safe bx h.safe).1⟩
theorem BoxS.drew (h:BoxS W x bx s ap cp al cl ab cb ae ce):BoxS W.drew x bx s ap cp al cl ab cb ae ce:=⟨h.blk,h.safe⟩
theorem BoxS.c0 (h:BoxS W x bx s ap cp al cl ab cb ae ce):W.cell? ⟨bx,0,none⟩=some (.string (toBA s.kind)):=by rw [cell_of_blk h.blk];rfl
theorem BoxS.c1 (h:BoxS W x bx s ap cp al cl ab cb ae ce):W.cell? ⟨bx,1,none⟩=some (.string (toBA s.name)):=by rw [cell_of_blk h.blk];rfl
theorem BoxS.c2 (h:BoxS W x bx s ap cp al cl ab cb ae ce):W.cell? ⟨bx,2,none⟩=some (.slice ap s.p.length cp):=by rw [cell_of_blk h.blk];rfl
theorem BoxS.c3 (h:BoxS W x bx s ap cp al cl ab cb ae ce):W.cell? ⟨bx,3,none⟩=some (.slice al s.l.length cl):=by rw [cell_of_blk h.blk];rfl
theorem BoxS.c4 (h:BoxS W x bx s ap cp al cl ab cb ae ce):W.cell? ⟨bx,4,none⟩=some (.slice ab s.body.length cb):=by rw [cell_of_blk h.blk];rfl
theorem BoxS.c5 (h:BoxS W x bx s ap cp al cl ab cb ae ce):W.cell? ⟨bx,5,none⟩=some (.slice ae s.els.length ce):=by rw [cell_of_blk h.blk];rfl
end
structure FBox (W:World) (x y:Nat) (f:KindF):Prop where
 blk:W.heap[y]? =some (.cells #[.bool f.name,.bool f.names,.int .i64 f.terms,.bool f.body,.bool f.other] 174 (0,0))
 safe:WSafe W x y
def rightB (s:Stm):Bool:=((((kindF s.kind).isSome && (((kindF s.kind).getD zeroF).name || (toBA s.name).toList == [])) && (((kindF s.kind).getD zeroF).names || ((s.p.length:Int) == 0))) && (((kindF s.kind).getD zeroF).body || ((s.body.length:Int) == 0))) && (((kindF s.kind).getD zeroF).other || ((s.els.length:Int) == 0))
def rightC (s:Stm):Bool:=rightB s && ((((s.l.length:Int) == ((kindF s.kind).getD zeroF).terms)) || (decide (((kindF s.kind).getD zeroF).terms < 0) && decide ((s.l.length:Int) < 2)))
theorem rightC_eq (s:Stm):rightC s=formOk s:=by
 have e1:((toBA s.name).toList == [])=decide (s.name= []):=by
  rw [m_toList]
  rcases s.name with _ | ⟨a,r⟩ <;> simp
 have e2:∀ {α :Type} (l:List α),((l.length:Int) == 0)=decide (l.length=0):=by
  intro α l
  rcases h:decide (l.length=0) with _ | _
  · rw [beq_eq_false_iff_ne];rw [decide_eq_false_iff_not] at h;omega
  · rw [beq_iff_eq];rw [decide_eq_true_eq] at h;omega
 have e3:∀ (l:List (List UInt8)),decide (l.length=0)=decide (l= []):=by
  intro l;rcases l with _ | ⟨a,r⟩ <;> simp
 have e4:∀ (l:List Stm),decide (l.length=0)=decide (l= []):=by
  intro l;rcases l with _ | ⟨a,r⟩ <;> simp
 unfold rightC rightB formOk
 rw [e1,e2,e2,e2,e3,e4,e4]
 rcases h:kindF s.kind with _ | f
 · simp
 · simp only [Option.isSome_some,Option.getD_some,Bool.true_and]
   have e5:(((s.l.length:Int) == f.terms))=decide ((s.l.length:Int)=f.terms):=rfl
   have e6:decide ((s.l.length:Int) < 2)=decide (s.l.length < 2):=by rw [decide_eq_decide];omega
   rw [e5,e6]
theorem KM.alloc {w0 w:World} {b:Nat} {ks:List (List UInt8 × Value)} (h:KM w0 w b ks) (o:Obj):KM w0 (w.alloc o) b ks:=by
 obtain ⟨⟨es,cl,hb,h1,h2⟩,hB,hbB⟩:=h
 exact ⟨⟨es,cl,(Below.heap_alloc _ _ _ (lt_of_blk hb)).trans hb,h1,h2⟩,hB.alloc hB.size o,hbB⟩
def set5 (w:World) (x:Nat) (a b c d e:Value):World:=((((w.setCell ⟨x,0,none⟩ a).setCell ⟨x,1,none⟩ b).setCell ⟨x,2,none⟩ c).setCell ⟨x,3,none⟩ d).setCell ⟨x,4,none⟩ e
theorem set5_heap {w:World} {x:Nat} {a b c d e z0 z1 z2 z3 z4:Value} {T:TypeId} (h:w.heap[x]? =some (.cells #[z0,z1,z2,z3,z4] T (0,0))):(set5 w x a b c d e).heap[x]? =some (.cells #[a,b,c,d,e] T (0,0)):=by
 have k0:=heap_setCell_at (o:=0) (v:=a) h
 have k1:=heap_setCell_at (o:=1) (v:=b) k0
 have k2:=heap_setCell_at (o:=2) (v:=c) k1
 have k3:=heap_setCell_at (o:=3) (v:=d) k2
 exact heap_setCell_at (o:=4) (v:=e) k3
theorem set5_below {w w0:World} {B x:Nat} {a b c d e:Value} (h:Below B w0 w) (hx:B≤x):Below B w0 (set5 w x a b c d e):=
 ((((h.setCell (p:=⟨x,0,none⟩) hx _).setCell (p:=⟨x,1,none⟩) hx _).setCell (p:=⟨x,2,none⟩) hx _).setCell (p:=⟨x,3,none⟩) hx _).setCell (p:=⟨x,4,none⟩) hx _
theorem new_safe {w W:World} {x y:Nat} {st:WS} {p v:Value} {l:List UInt8} (h:WrC w x st p v l) (hb:Below w.heap.size w W) (hy:w.heap.size≤y) (hy2:y < W.heap.size):WSafe W x y:=by
 have h1:=(h.grow hb).1
 refine ⟨hy2,by have:=h.lt;omega,?_⟩
 intro p' v' a b c T hh
 rw [h1.blk] at hh
 injection hh with hh
 injection hh with hh _
 simp only [Array.mk.injEq,List.cons.injEq,and_true] at hh
 obtain ⟨_,rfl,_⟩:=hh
 intro e
 have:=(h.own_lt e).2
 omega
theorem fbox_mk {w W:World} {x y:Nat} {st:WS} {p v:Value} {l:List UInt8} {f:KindF} (h:WrC w x st p v l) (hb:Below w.heap.size w W) (hy:w.heap.size≤y) (hk:W.heap[y]? =some (.cells #[.bool f.name,.bool f.names,.int .i64 f.terms,.bool f.body,.bool f.other] 174 (0,0))):FBox W x y f:=⟨hk,new_safe h hb hy (lt_of_blk hk)⟩
theorem right_rel {w wA W:World} {x bx y:Nat} {st:WS} {p v:Value} {l:List UInt8} {f:KindF} {I:Bool} {s:Stm} {ap:Option Addr} {cp:Nat} {al:Option Addr} {cl:Nat} {ab:Option Addr} {cb:Nat} {ae:Option Addr} {ce:Nat} (h:WrC wA x st p v l) (hs:WStp x w wA) (hB:BoxS wA x bx s ap cp al cl ab cb ae ce) (hb:Below wA.heap.size wA W) (hy:wA.heap.size≤y)
 (hk:W.heap[y]? =some (.cells #[.bool f.name,.bool f.names,.int .i64 f.terms,.bool f.body,.bool f.other] 174 (0,0))):
 ∃ y',Value.pointer (some ⟨y,0,none⟩)= .pointer (some ⟨y',0,none⟩)∧Value.bool I= .bool I∧FBox W x y' f∧WrC W x st p v l∧WStp x w W∧BoxS W x bx s ap cp al cl ab cb ae ce:=
 ⟨y,rfl,rfl,fbox_mk h hb hy hk,(h.grow hb).1,hs.trans (h.grow hb).2,hB.step (h.grow hb).2⟩
theorem right_eq (st:WS) (s:Stm) {b:Bool} (hC:rightC s=b):st.right s=if (st.must b).ok && ((kindF s.kind).getD zeroF).name then (st.must b).nameW s.name else st.must b:=by
 have h:hasName s=((kindF s.kind).getD zeroF).name:=by
  unfold hasName
  rcases kindF s.kind with _ | f <;> rfl
 unfold WS.right
 rw [← hC,rightC_eq,h]
set_option maxRecDepth 100000 in
set_option maxHeartbeats 20000000 in
theorem right_any {w:World} {x:Nat} {st:WS} {p v:Value} {l:List UInt8} (h:WrC w x st p v l) (s:Stm) (ap al ab ae:Option Addr) (cp cl cb ce:Nat) (hk:s.kind.length≤2000000) (hn:s.name.length≤1100000) (hg:GlobT x w):
 Calls Tryz.prog 64 #[.pointer (some ⟨x,0,none⟩),.agg #[.string (toBA s.kind),.string (toBA s.name),.slice ap s.p.length cp,.slice al s.l.length cl,.slice ab s.body.length cb,.slice ae s.els.length ce]] w fun e w'=>e= .returned (.bool (st.right s).ok)∧WrC w' x (st.right s) p v l∧WStp x w w':=by
 obtain ⟨ha,sa,sfa⟩:=h.alloc (.cells #[.string (toBA s.kind),.string (toBA s.name),.slice ap s.p.length cp,.slice al s.l.length cl,.slice ab s.body.length cb,.slice ae s.els.length ce] 82)
 have hbx:BoxS (w.alloc (.cells #[.string (toBA s.kind),.string (toBA s.name),.slice ap s.p.length cp,.slice al s.l.length cl,.slice ab s.body.length cb,.slice ae s.els.length ce] 82)) x w.heap.size s ap cp al cl ab cb ae ce:=⟨heap_alloc_new w _,sfa⟩
 have Ha:=Lib.hid ha;have Sa:=Lib.hid sa;have Hbx:=Lib.hid hbx;have Hg:=Lib.hid hg;have HH:=Lib.hid h
 have c0:=hbx.c0
 clear ha sa hbx hg sfa h
 go_enter Tryz.func64,Tryz.ntmps64
 go_wp2_with fail
 generalize w.alloc (.cells #[.string (toBA s.kind),.string (toBA s.name),.slice ap s.p.length cp,.slice al s.l.length cl,.slice ab s.body.length cb,.slice ae s.els.length ce] 82)=wA at Ha Sa Hbx c0 ⊢
 generalize hbxn:w.heap.size=bx at Hbx c0 ⊢
 clear hbxn
 go_cut [5,6] (fun q5 q6 W=>∃ y,q5= .pointer (some ⟨y,0,none⟩)∧q6= .bool (kindF s.kind).isSome∧FBox W x y ((kindF s.kind).getD zeroF)∧WrC W x st p v l∧WStp x w W∧BoxS W x bx s ap cp al cl ab cb ae ce)
 case first=>
  have Kk:∀ (w0 w2:World) (b:Nat),KM w0 w2 b kindsKs→(Instr.lookup 176 (.map (some b)) (.string (toBA s.kind)) true).run Tryz.prog w2= .ok (.tuple #[.agg #[.bool ((kindF s.kind).getD zeroF).name,.bool ((kindF s.kind).getD zeroF).names,.int .i64 ((kindF s.kind).getD zeroF).terms,.bool ((kindF s.kind).getD zeroF).body,.bool ((kindF s.kind).getD zeroF).other],.bool (kindF s.kind).isSome]) w2:=fun w0 w2 b h=>kinds_look h s.kind hk
  have KK:=Lib.hid Kk
  have xlA:=lt_of_blk Hbx.out.blk
  clear Kk
  generalize hF:(kindF s.kind).getD zeroF=F at KK ⊢
  generalize hI:(kindF s.kind).isSome=I at KK ⊢
  have HFI:=Lib.hid (And.intro hF hI)
  clear hF hI
  go_region_with ((first
   | (go_at_call 102;(with_reducible refine (kinds_any _).mono ?_);rintro _ w2 ⟨b,rfl,hkm⟩;have hbl:Below wA.heap.size wA w2:=(by first | exact (Below.refl _ _).drew.trans hkm.2.1 | exact ((Below.refl _ _).drew.alloc (Nat.le_refl _) _).trans (hkm.2.1.mono (by simp)));have c0:=(Hbx.out.step (Ha.out.grow hbl).2).c0;have xl:=lt_of_blk (Hbx.out.step (Ha.out.grow hbl).2).blk;have hlk:=KK.out _ _ _ hkm;have hlk2:=KK.out _ _ _ (hkm.alloc (.cells #[.bool false,.bool false,.int .i64 0,.bool false,.bool false] 174));(try (have hy:=(hkm.2.1.block wA.heap.size (by simp)).trans (heap_alloc_new wA.drew _);have y0:=cell_of_blk (o:=0) hy;have y1:=cell_of_blk (o:=1) hy;have y2:=cell_of_blk (o:=2) hy;have y3:=cell_of_blk (o:=3) hy;have y4:=cell_of_blk (o:=4) hy;have g0:=frozen_of_blk (o:=0) hy;have g1:=frozen_of_blk (o:=1) hy;have g2:=frozen_of_blk (o:=2) hy;have g3:=frozen_of_blk (o:=3) hy;have g4:=frozen_of_blk (o:=4) hy;have yl:=lt_of_blk hy));have BL:=Lib.hid hbl;clear hkm hbl)))
  all_goals
   go_wp2_with fail
   go_meet
   case rel=>
    rw [HFI.out.1,HFI.out.2]
    first
     | exact right_rel Ha.out Sa.out Hbx.out (BL.out.alloc BL.out.size _) BL.out.size (heap_alloc_new _ _)
     | exact right_rel (W:=set5 w2 wA.heap.size (.bool F.name) (.bool F.names) (.int .i64 F.terms) (.bool F.body) (.bool F.other)) Ha.out Sa.out Hbx.out (set5_below BL.out (Nat.le_refl _)) (Nat.le_refl _) (set5_heap hy)
 case rest=>
  obtain ⟨y,rfl,rfl,hf,h2,s2,hb2⟩:=hcut
  have k1:=hb2.c1
  have k2:=hb2.c2
  have k3:=hb2.c3
  have k4:=hb2.c4
  have k5:=hb2.c5
  have e0:wc.cell? ⟨y,0,none⟩=some (.bool ((kindF s.kind).getD zeroF).name):=by rw [cell_of_blk hf.blk];rfl
  have e1:wc.cell? ⟨y,1,none⟩=some (.bool ((kindF s.kind).getD zeroF).names):=by rw [cell_of_blk hf.blk];rfl
  have e2:wc.cell? ⟨y,2,none⟩=some (.int .i64 ((kindF s.kind).getD zeroF).terms):=by rw [cell_of_blk hf.blk];rfl
  have e3:wc.cell? ⟨y,3,none⟩=some (.bool ((kindF s.kind).getD zeroF).body):=by rw [cell_of_blk hf.blk];rfl
  have e4:wc.cell? ⟨y,4,none⟩=some (.bool ((kindF s.kind).getD zeroF).other):=by rw [cell_of_blk hf.blk];rfl
  have HF:=Lib.hid hf;have H2:=Lib.hid h2;have S2:=Lib.hid s2;have B2:=Lib.hid hb2
  clear hf h2 s2 hb2 c0
  go_upto_region 2 with fail
  go_cut [6] (fun q W=>q= .bool (rightB s)∧W=wc)
  case first=>
   have hR:rightB s=((((((kindF s.kind).isSome && (((kindF s.kind).getD zeroF).name || (toBA s.name).toList == [])) && (((kindF s.kind).getD zeroF).names || ((s.p.length:Int) == 0))) && (((kindF s.kind).getD zeroF).body || ((s.body.length:Int) == 0))) && (((kindF s.kind).getD zeroF).other || ((s.els.length:Int) == 0)))):=rfl
   generalize ((kindF s.kind).getD zeroF)=F at e0 e1 e2 e3 e4 hR ⊢
   generalize (kindF s.kind).isSome=I at hR ⊢
   rcases F with ⟨fa,fb,fc,fd,fe⟩
   rcases I with _ | _
   · skip
     have hR2:rightB s=false:=by rw [hR];simp [*]
     have HR:=Lib.hid hR2
     clear hR hR2
     go_wp2_with fail
     go_meet
     case rel=>exact ⟨by rw [HR.out],rfl⟩
   · skip
     rcases fa with _ | _
     · rcases h1:((toBA s.name).toList == []) with _ | _
       · skip
         have hR2:rightB s=false:=by rw [hR];simp [*]
         have HR:=Lib.hid hR2
         clear hR hR2
         go_wp2_with fail
         go_meet
         case rel=>exact ⟨by rw [HR.out],rfl⟩
       · skip
         rcases fb with _ | _
         · rcases h2:((s.p.length:Int) == 0) with _ | _
           · skip
             have hR2:rightB s=false:=by rw [hR];simp [*]
             have HR:=Lib.hid hR2
             clear hR hR2
             go_wp2_with fail
             go_meet
             case rel=>exact ⟨by rw [HR.out],rfl⟩
           · skip
             rcases fd with _ | _
             · rcases h3:((s.body.length:Int) == 0) with _ | _
               · skip
                 have hR2:rightB s=false:=by rw [hR];simp [*]
                 have HR:=Lib.hid hR2
                 clear hR hR2
                 go_wp2_with fail
                 go_meet
                 case rel=>exact ⟨by rw [HR.out],rfl⟩
               · skip
                 rcases fe with _ | _
                 · rcases h4:((s.els.length:Int) == 0) with _ | _
                   · skip
                     have hR2:rightB s=false:=by rw [hR];simp [*]
                     have HR:=Lib.hid hR2
                     clear hR hR2
                     go_wp2_with fail
                     go_meet
                     case rel=>exact ⟨by rw [HR.out],rfl⟩
                   · skip
                     have hR2:rightB s=true:=by rw [hR];simp [*]
                     have HR:=Lib.hid hR2
                     clear hR hR2
                     go_wp2_with fail
                     go_meet
                     case rel=>exact ⟨by rw [HR.out],rfl⟩
                 · skip
                   have hR2:rightB s=true:=by rw [hR];simp [*]
                   have HR:=Lib.hid hR2
                   clear hR hR2
                   go_wp2_with fail
                   go_meet
                   case rel=>exact ⟨by rw [HR.out],rfl⟩
             · skip
               rcases fe with _ | _
               · rcases h4:((s.els.length:Int) == 0) with _ | _
                 · skip
                   have hR2:rightB s=false:=by rw [hR];simp [*]
                   have HR:=Lib.hid hR2
                   clear hR hR2
                   go_wp2_with fail
                   go_meet
                   case rel=>exact ⟨by rw [HR.out],rfl⟩
                 · skip
                   have hR2:rightB s=true:=by rw [hR];simp [*]
                   have HR:=Lib.hid hR2
                   clear hR hR2
                   go_wp2_with fail
                   go_meet
                   case rel=>exact ⟨by rw [HR.out],rfl⟩
               · skip
                 have hR2:rightB s=true:=by rw [hR];simp [*]
                 have HR:=Lib.hid hR2
                 clear hR hR2
                 go_wp2_with fail
                 go_meet
                 case rel=>exact ⟨by rw [HR.out],rfl⟩
         · skip
           rcases fd with _ | _
           · rcases h3:((s.body.length:Int) == 0) with _ | _
             · skip
               have hR2:rightB s=false:=by rw [hR];simp [*]
               have HR:=Lib.hid hR2
               clear hR hR2
               go_wp2_with fail
               go_meet
               case rel=>exact ⟨by rw [HR.out],rfl⟩
             · skip
               rcases fe with _ | _
               · rcases h4:((s.els.length:Int) == 0) with _ | _
                 · skip
                   have hR2:rightB s=false:=by rw [hR];simp [*]
                   have HR:=Lib.hid hR2
                   clear hR hR2
                   go_wp2_with fail
                   go_meet
                   case rel=>exact ⟨by rw [HR.out],rfl⟩
                 · skip
                   have hR2:rightB s=true:=by rw [hR];simp [*]
                   have HR:=Lib.hid hR2
                   clear hR hR2
                   go_wp2_with fail
                   go_meet
                   case rel=>exact ⟨by rw [HR.out],rfl⟩
               · skip
                 have hR2:rightB s=true:=by rw [hR];simp [*]
                 have HR:=Lib.hid hR2
                 clear hR hR2
                 go_wp2_with fail
                 go_meet
                 case rel=>exact ⟨by rw [HR.out],rfl⟩
           · skip
             rcases fe with _ | _
             · rcases h4:((s.els.length:Int) == 0) with _ | _
               · skip
                 have hR2:rightB s=false:=by rw [hR];simp [*]
                 have HR:=Lib.hid hR2
                 clear hR hR2
                 go_wp2_with fail
                 go_meet
                 case rel=>exact ⟨by rw [HR.out],rfl⟩
               · skip
                 have hR2:rightB s=true:=by rw [hR];simp [*]
                 have HR:=Lib.hid hR2
                 clear hR hR2
                 go_wp2_with fail
                 go_meet
                 case rel=>exact ⟨by rw [HR.out],rfl⟩
             · skip
               have hR2:rightB s=true:=by rw [hR];simp [*]
               have HR:=Lib.hid hR2
               clear hR hR2
               go_wp2_with fail
               go_meet
               case rel=>exact ⟨by rw [HR.out],rfl⟩
     · skip
       rcases fb with _ | _
       · rcases h2:((s.p.length:Int) == 0) with _ | _
         · skip
           have hR2:rightB s=false:=by rw [hR];simp [*]
           have HR:=Lib.hid hR2
           clear hR hR2
           go_wp2_with fail
           go_meet
           case rel=>exact ⟨by rw [HR.out],rfl⟩
         · skip
           rcases fd with _ | _
           · rcases h3:((s.body.length:Int) == 0) with _ | _
             · skip
               have hR2:rightB s=false:=by rw [hR];simp [*]
               have HR:=Lib.hid hR2
               clear hR hR2
               go_wp2_with fail
               go_meet
               case rel=>exact ⟨by rw [HR.out],rfl⟩
             · skip
               rcases fe with _ | _
               · rcases h4:((s.els.length:Int) == 0) with _ | _
                 · skip
                   have hR2:rightB s=false:=by rw [hR];simp [*]
                   have HR:=Lib.hid hR2
                   clear hR hR2
                   go_wp2_with fail
                   go_meet
                   case rel=>exact ⟨by rw [HR.out],rfl⟩
                 · skip
                   have hR2:rightB s=true:=by rw [hR];simp [*]
                   have HR:=Lib.hid hR2
                   clear hR hR2
                   go_wp2_with fail
                   go_meet
                   case rel=>exact ⟨by rw [HR.out],rfl⟩
               · skip
                 have hR2:rightB s=true:=by rw [hR];simp [*]
                 have HR:=Lib.hid hR2
                 clear hR hR2
                 go_wp2_with fail
                 go_meet
                 case rel=>exact ⟨by rw [HR.out],rfl⟩
           · skip
             rcases fe with _ | _
             · rcases h4:((s.els.length:Int) == 0) with _ | _
               · skip
                 have hR2:rightB s=false:=by rw [hR];simp [*]
                 have HR:=Lib.hid hR2
                 clear hR hR2
                 go_wp2_with fail
                 go_meet
                 case rel=>exact ⟨by rw [HR.out],rfl⟩
               · skip
                 have hR2:rightB s=true:=by rw [hR];simp [*]
                 have HR:=Lib.hid hR2
                 clear hR hR2
                 go_wp2_with fail
                 go_meet
                 case rel=>exact ⟨by rw [HR.out],rfl⟩
             · skip
               have hR2:rightB s=true:=by rw [hR];simp [*]
               have HR:=Lib.hid hR2
               clear hR hR2
               go_wp2_with fail
               go_meet
               case rel=>exact ⟨by rw [HR.out],rfl⟩
       · skip
         rcases fd with _ | _
         · rcases h3:((s.body.length:Int) == 0) with _ | _
           · skip
             have hR2:rightB s=false:=by rw [hR];simp [*]
             have HR:=Lib.hid hR2
             clear hR hR2
             go_wp2_with fail
             go_meet
             case rel=>exact ⟨by rw [HR.out],rfl⟩
           · skip
             rcases fe with _ | _
             · rcases h4:((s.els.length:Int) == 0) with _ | _
               · skip
                 have hR2:rightB s=false:=by rw [hR];simp [*]
                 have HR:=Lib.hid hR2
                 clear hR hR2
                 go_wp2_with fail
                 go_meet
                 case rel=>exact ⟨by rw [HR.out],rfl⟩
               · skip
                 have hR2:rightB s=true:=by rw [hR];simp [*]
                 have HR:=Lib.hid hR2
                 clear hR hR2
                 go_wp2_with fail
                 go_meet
                 case rel=>exact ⟨by rw [HR.out],rfl⟩
             · skip
               have hR2:rightB s=true:=by rw [hR];simp [*]
               have HR:=Lib.hid hR2
               clear hR hR2
               go_wp2_with fail
               go_meet
               case rel=>exact ⟨by rw [HR.out],rfl⟩
         · skip
           rcases fe with _ | _
           · rcases h4:((s.els.length:Int) == 0) with _ | _
             · skip
               have hR2:rightB s=false:=by rw [hR];simp [*]
               have HR:=Lib.hid hR2
               clear hR hR2
               go_wp2_with fail
               go_meet
               case rel=>exact ⟨by rw [HR.out],rfl⟩
             · skip
               have hR2:rightB s=true:=by rw [hR];simp [*]
               have HR:=Lib.hid hR2
               clear hR hR2
               go_wp2_with fail
               go_meet
               case rel=>exact ⟨by rw [HR.out],rfl⟩
           · skip
             have hR2:rightB s=true:=by rw [hR];simp [*]
             have HR:=Lib.hid hR2
             clear hR hR2
             go_wp2_with fail
             go_meet
             case rel=>exact ⟨by rw [HR.out],rfl⟩
  case rest=>
   obtain ⟨rfl,rfl⟩:=hcut
   rcases hB:rightB s with _ | _
   · skip
     have hC:rightC s=false:=by unfold rightC;rw [hB];simp [*]
     have hre:=right_eq st s hC
     have hm:=must_any H2.out false
     have Hm:=Lib.hid hm;have Hre:=Lib.hid hre
     clear hm hre hC
     go_wp2_with fail
     refine Hm.out.mono ?_
     rintro _ w3 ⟨rfl,h3,s3⟩
     have hf3:=(s3.safe y HF.out.safe).2.trans HF.out.blk
     have hb3:=B2.out.step s3
     have hs3:=S2.out.trans s3
     clear e0 e1 e2 e3 e4 k1 k2 k3 k4 k5 Hm
     have e0:w3.cell? ⟨y,0,none⟩=some (.bool ((kindF s.kind).getD zeroF).name):=by rw [cell_of_blk hf3];rfl
     have k1:=hb3.c1
     have x3:=h3.c4
     have H3:=Lib.hid h3;have S3:=Lib.hid hs3
     clear h3 hs3 hf3 hb3 s3
     rcases hok:(st.must false).ok with _ | _
     · rw [hok] at x3
       have hr1:st.right s=st.must false:=by rw [Hre.out,hok];rfl
       have Hr1:=Lib.hid hr1;have Hok:=Lib.hid hok
       clear hr1 hok
       go_wp2_with fail
       refine bodyPost_ret (results_tmp rfl _ _ _) rfl ?_
       exact ⟨by rw [Hr1.out,Hok.out];rfl,by rw [Hr1.out];exact H3.out,S3.out⟩
     · rw [hok] at x3
       rcases hfn:((kindF s.kind).getD zeroF).name with _ | _
       · rw [hfn] at e0
         have hr1:st.right s=st.must false:=by rw [Hre.out,hok,hfn];rfl
         have Hr1:=Lib.hid hr1;have Hok:=Lib.hid hok
         clear hr1 hok hfn
         go_wp2_with fail
         refine bodyPost_ret (results_tmp rfl _ _ _) rfl ?_
         exact ⟨by rw [Hr1.out,Hok.out];rfl,by rw [Hr1.out];exact H3.out,S3.out⟩
       · rw [hfn] at e0
         have hr1:st.right s=(st.must false).nameW s.name:=by rw [Hre.out,hok,hfn];rfl
         have hnm:=name_any H3.out s.name (by omega) (Hg.out.below (WStp.below HH.out S3.out)).toGlobE
         have Hr1:=Lib.hid hr1;have Hnm:=Lib.hid hnm
         clear hr1 hok hfn hnm
         go_wp2_with fail
         refine Hnm.out.mono ?_
         rintro _ w4 ⟨rfl,h4,s4⟩
         have x4:=h4.c4
         have H4:=Lib.hid h4;have S4:=Lib.hid (S3.out.trans s4)
         clear h4 s4 x3
         go_wp2_with fail
         refine bodyPost_ret (results_tmp rfl _ _ _) rfl ?_
         exact ⟨by rw [Hr1.out];rfl,by rw [Hr1.out];exact H4.out,S4.out⟩
   · rcases g1:((s.l.length:Int) == ((kindF s.kind).getD zeroF).terms) with _ | _
     · rcases g2:decide (((kindF s.kind).getD zeroF).terms < 0) with _ | _
       · skip
         have hC:rightC s=false:=by unfold rightC;rw [hB,g1,g2];simp [*]
         have hre:=right_eq st s hC
         have hm:=must_any H2.out false
         have Hm:=Lib.hid hm;have Hre:=Lib.hid hre
         clear hm hre hC
         go_wp2_with fail
         refine Hm.out.mono ?_
         rintro _ w3 ⟨rfl,h3,s3⟩
         have hf3:=(s3.safe y HF.out.safe).2.trans HF.out.blk
         have hb3:=B2.out.step s3
         have hs3:=S2.out.trans s3
         clear e0 e1 e2 e3 e4 k1 k2 k3 k4 k5 Hm
         have e0:w3.cell? ⟨y,0,none⟩=some (.bool ((kindF s.kind).getD zeroF).name):=by rw [cell_of_blk hf3];rfl
         have k1:=hb3.c1
         have x3:=h3.c4
         have H3:=Lib.hid h3;have S3:=Lib.hid hs3
         clear h3 hs3 hf3 hb3 s3
         rcases hok:(st.must false).ok with _ | _
         · rw [hok] at x3
           have hr1:st.right s=st.must false:=by rw [Hre.out,hok];rfl
           have Hr1:=Lib.hid hr1;have Hok:=Lib.hid hok
           clear hr1 hok
           go_wp2_with fail
           refine bodyPost_ret (results_tmp rfl _ _ _) rfl ?_
           exact ⟨by rw [Hr1.out,Hok.out];rfl,by rw [Hr1.out];exact H3.out,S3.out⟩
         · rw [hok] at x3
           rcases hfn:((kindF s.kind).getD zeroF).name with _ | _
           · rw [hfn] at e0
             have hr1:st.right s=st.must false:=by rw [Hre.out,hok,hfn];rfl
             have Hr1:=Lib.hid hr1;have Hok:=Lib.hid hok
             clear hr1 hok hfn
             go_wp2_with fail
             refine bodyPost_ret (results_tmp rfl _ _ _) rfl ?_
             exact ⟨by rw [Hr1.out,Hok.out];rfl,by rw [Hr1.out];exact H3.out,S3.out⟩
           · rw [hfn] at e0
             have hr1:st.right s=(st.must false).nameW s.name:=by rw [Hre.out,hok,hfn];rfl
             have hnm:=name_any H3.out s.name (by omega) (Hg.out.below (WStp.below HH.out S3.out)).toGlobE
             have Hr1:=Lib.hid hr1;have Hnm:=Lib.hid hnm
             clear hr1 hok hfn hnm
             go_wp2_with fail
             refine Hnm.out.mono ?_
             rintro _ w4 ⟨rfl,h4,s4⟩
             have x4:=h4.c4
             have H4:=Lib.hid h4;have S4:=Lib.hid (S3.out.trans s4)
             clear h4 s4 x3
             go_wp2_with fail
             refine bodyPost_ret (results_tmp rfl _ _ _) rfl ?_
             exact ⟨by rw [Hr1.out];rfl,by rw [Hr1.out];exact H4.out,S4.out⟩
       · rcases g3:decide ((s.l.length:Int) < 2) with _ | _
         · skip
           have hC:rightC s=false:=by unfold rightC;rw [hB,g1,g2,g3];simp [*]
           have hre:=right_eq st s hC
           have hm:=must_any H2.out false
           have Hm:=Lib.hid hm;have Hre:=Lib.hid hre
           clear hm hre hC
           go_wp2_with fail
           refine Hm.out.mono ?_
           rintro _ w3 ⟨rfl,h3,s3⟩
           have hf3:=(s3.safe y HF.out.safe).2.trans HF.out.blk
           have hb3:=B2.out.step s3
           have hs3:=S2.out.trans s3
           clear e0 e1 e2 e3 e4 k1 k2 k3 k4 k5 Hm
           have e0:w3.cell? ⟨y,0,none⟩=some (.bool ((kindF s.kind).getD zeroF).name):=by rw [cell_of_blk hf3];rfl
           have k1:=hb3.c1
           have x3:=h3.c4
           have H3:=Lib.hid h3;have S3:=Lib.hid hs3
           clear h3 hs3 hf3 hb3 s3
           rcases hok:(st.must false).ok with _ | _
           · rw [hok] at x3
             have hr1:st.right s=st.must false:=by rw [Hre.out,hok];rfl
             have Hr1:=Lib.hid hr1;have Hok:=Lib.hid hok
             clear hr1 hok
             go_wp2_with fail
             refine bodyPost_ret (results_tmp rfl _ _ _) rfl ?_
             exact ⟨by rw [Hr1.out,Hok.out];rfl,by rw [Hr1.out];exact H3.out,S3.out⟩
           · rw [hok] at x3
             rcases hfn:((kindF s.kind).getD zeroF).name with _ | _
             · rw [hfn] at e0
               have hr1:st.right s=st.must false:=by rw [Hre.out,hok,hfn];rfl
               have Hr1:=Lib.hid hr1;have Hok:=Lib.hid hok
               clear hr1 hok hfn
               go_wp2_with fail
               refine bodyPost_ret (results_tmp rfl _ _ _) rfl ?_
               exact ⟨by rw [Hr1.out,Hok.out];rfl,by rw [Hr1.out];exact H3.out,S3.out⟩
             · rw [hfn] at e0
               have hr1:st.right s=(st.must false).nameW s.name:=by rw [Hre.out,hok,hfn];rfl
               have hnm:=name_any H3.out s.name (by omega) (Hg.out.below (WStp.below HH.out S3.out)).toGlobE
               have Hr1:=Lib.hid hr1;have Hnm:=Lib.hid hnm
               clear hr1 hok hfn hnm
               go_wp2_with fail
               refine Hnm.out.mono ?_
               rintro _ w4 ⟨rfl,h4,s4⟩
               have x4:=h4.c4
               have H4:=Lib.hid h4;have S4:=Lib.hid (S3.out.trans s4)
               clear h4 s4 x3
               go_wp2_with fail
               refine bodyPost_ret (results_tmp rfl _ _ _) rfl ?_
               exact ⟨by rw [Hr1.out];rfl,by rw [Hr1.out];exact H4.out,S4.out⟩
         · skip
           have hC:rightC s=true:=by unfold rightC;rw [hB,g1,g2,g3];simp [*]
           have hre:=right_eq st s hC
           have hm:=must_any H2.out true
           have Hm:=Lib.hid hm;have Hre:=Lib.hid hre
           clear hm hre hC
           go_wp2_with fail
           refine Hm.out.mono ?_
           rintro _ w3 ⟨rfl,h3,s3⟩
           have hf3:=(s3.safe y HF.out.safe).2.trans HF.out.blk
           have hb3:=B2.out.step s3
           have hs3:=S2.out.trans s3
           clear e0 e1 e2 e3 e4 k1 k2 k3 k4 k5 Hm
           have e0:w3.cell? ⟨y,0,none⟩=some (.bool ((kindF s.kind).getD zeroF).name):=by rw [cell_of_blk hf3];rfl
           have k1:=hb3.c1
           have x3:=h3.c4
           have H3:=Lib.hid h3;have S3:=Lib.hid hs3
           clear h3 hs3 hf3 hb3 s3
           rcases hok:(st.must true).ok with _ | _
           · rw [hok] at x3
             have hr1:st.right s=st.must true:=by rw [Hre.out,hok];rfl
             have Hr1:=Lib.hid hr1;have Hok:=Lib.hid hok
             clear hr1 hok
             go_wp2_with fail
             refine bodyPost_ret (results_tmp rfl _ _ _) rfl ?_
             exact ⟨by rw [Hr1.out,Hok.out];rfl,by rw [Hr1.out];exact H3.out,S3.out⟩
           · rw [hok] at x3
             rcases hfn:((kindF s.kind).getD zeroF).name with _ | _
             · rw [hfn] at e0
               have hr1:st.right s=st.must true:=by rw [Hre.out,hok,hfn];rfl
               have Hr1:=Lib.hid hr1;have Hok:=Lib.hid hok
               clear hr1 hok hfn
               go_wp2_with fail
               refine bodyPost_ret (results_tmp rfl _ _ _) rfl ?_
               exact ⟨by rw [Hr1.out,Hok.out];rfl,by rw [Hr1.out];exact H3.out,S3.out⟩
             · rw [hfn] at e0
               have hr1:st.right s=(st.must true).nameW s.name:=by rw [Hre.out,hok,hfn];rfl
               have hnm:=name_any H3.out s.name (by omega) (Hg.out.below (WStp.below HH.out S3.out)).toGlobE
               have Hr1:=Lib.hid hr1;have Hnm:=Lib.hid hnm
               clear hr1 hok hfn hnm
               go_wp2_with fail
               refine Hnm.out.mono ?_
               rintro _ w4 ⟨rfl,h4,s4⟩
               have x4:=h4.c4
               have H4:=Lib.hid h4;have S4:=Lib.hid (S3.out.trans s4)
               clear h4 s4 x3
               go_wp2_with fail
               refine bodyPost_ret (results_tmp rfl _ _ _) rfl ?_
               exact ⟨by rw [Hr1.out];rfl,by rw [Hr1.out];exact H4.out,S4.out⟩
     · skip
       have hC:rightC s=true:=by unfold rightC;rw [hB,g1];simp [*]
       have hre:=right_eq st s hC
       have hm:=must_any H2.out true
       have Hm:=Lib.hid hm;have Hre:=Lib.hid hre
       clear hm hre hC
       go_wp2_with fail
       refine Hm.out.mono ?_
       rintro _ w3 ⟨rfl,h3,s3⟩
       have hf3:=(s3.safe y HF.out.safe).2.trans HF.out.blk
       have hb3:=B2.out.step s3
       have hs3:=S2.out.trans s3
       clear e0 e1 e2 e3 e4 k1 k2 k3 k4 k5 Hm
       have e0:w3.cell? ⟨y,0,none⟩=some (.bool ((kindF s.kind).getD zeroF).name):=by rw [cell_of_blk hf3];rfl
       have k1:=hb3.c1
       have x3:=h3.c4
       have H3:=Lib.hid h3;have S3:=Lib.hid hs3
       clear h3 hs3 hf3 hb3 s3
       rcases hok:(st.must true).ok with _ | _
       · rw [hok] at x3
         have hr1:st.right s=st.must true:=by rw [Hre.out,hok];rfl
         have Hr1:=Lib.hid hr1;have Hok:=Lib.hid hok
         clear hr1 hok
         go_wp2_with fail
         refine bodyPost_ret (results_tmp rfl _ _ _) rfl ?_
         exact ⟨by rw [Hr1.out,Hok.out];rfl,by rw [Hr1.out];exact H3.out,S3.out⟩
       · rw [hok] at x3
         rcases hfn:((kindF s.kind).getD zeroF).name with _ | _
         · rw [hfn] at e0
           have hr1:st.right s=st.must true:=by rw [Hre.out,hok,hfn];rfl
           have Hr1:=Lib.hid hr1;have Hok:=Lib.hid hok
           clear hr1 hok hfn
           go_wp2_with fail
           refine bodyPost_ret (results_tmp rfl _ _ _) rfl ?_
           exact ⟨by rw [Hr1.out,Hok.out];rfl,by rw [Hr1.out];exact H3.out,S3.out⟩
         · rw [hfn] at e0
           have hr1:st.right s=(st.must true).nameW s.name:=by rw [Hre.out,hok,hfn];rfl
           have hnm:=name_any H3.out s.name (by omega) (Hg.out.below (WStp.below HH.out S3.out)).toGlobE
           have Hr1:=Lib.hid hr1;have Hnm:=Lib.hid hnm
           clear hr1 hok hfn hnm
           go_wp2_with fail
           refine Hnm.out.mono ?_
           rintro _ w4 ⟨rfl,h4,s4⟩
           have x4:=h4.c4
           have H4:=Lib.hid h4;have S4:=Lib.hid (S3.out.trans s4)
           clear h4 s4 x3
           go_wp2_with fail
           refine bodyPost_ret (results_tmp rfl _ _ _) rfl ?_
           exact ⟨by rw [Hr1.out];rfl,by rw [Hr1.out];exact H4.out,S4.out⟩
end Go.Proofs.YtdoaeapahgmfoaaGreatDoor

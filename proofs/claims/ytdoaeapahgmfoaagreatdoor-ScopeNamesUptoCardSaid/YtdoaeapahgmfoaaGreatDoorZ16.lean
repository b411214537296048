/- The writer's term: a term within; brackets; neg, not. The writer's term: brackets; not. -/
import Derived.Test.YtdoaeapahgmfoaaGreatDoorZ15
namespace Go.Proofs.YtdoaeapahgmfoaaGreatDoor
open Go.RowKit
theorem WrC.drew {w:World} {x:Nat} {st:WS} {p v:Value} {l:List UInt8} (h:WrC w x st p v l):WrC w.drew x st p v l:=⟨h.blk,h.addr,h.buf,h.len,h.ne⟩
theorem WStp.drew {x:Nat} {a b:World} (h:WStp x a b):WStp x a b.drew:=⟨h.os,h.tape,h.output,h.size,h.safe⟩
theorem BoxE.drew {W:World} {x bx:Nat} {e:Ex} {ap:Option Addr} {cp:Nat} {al:Option Addr} {cl:Nat} (h:BoxE W x bx e ap cp al cl):BoxE W.drew x bx e ap cp al cl:=⟨h.blk,h.safe⟩
theorem TermC.use {f:Nat} (hf:TermC f) {e:Ex} {least deep:Nat} {w:World} {x:Nat} {st:WS} {p v:Value} {l:List UInt8} {vp vl:Value} (hk:termK e least≤f) (H:TermIn e least deep w x st p v l vp vl):
 Calls Tryz.prog 66 #[.pointer (some ⟨x,0,none⟩),.agg #[.string (toBA e.op),.int .i64 e.n,.string (toBA e.s),vp,vl],.int .i64 (least:Int),.int .i64 (deep:Int)] w (TextPost x w st p v l (termB e least) (termK e least) (TW e least deep st)):=
 hf e least deep w x st p v l vp vl hk H.fit H.bulk H.wt H.leastB H.deepB H.n H.wr H.glob H.ps H.ls
theorem termK_le (e:Ex) (k:Nat):3 * e.nodes≤termK e k∧termK e k≤3 * e.nodes+1:=by unfold termK;split <;> omega
theorem rankL_le (op:List UInt8):rankL op≤8:=by
 unfold rankL
 split
 · omega
 · split
   · omega
   · split
     · omega
     · have h:∀ (l:List (List (List UInt8))) (i:Nat),i+l.length≤8→levelOf l op i≤8:=by
        intro l
        induction l with
        | nil=>intro i _;exact Nat.le_refl _
        | cons a r ih=>
          intro i hi
          unfold levelOf
          simp only [List.length_cons] at hi
          split
          · omega
          · exact ih (i+1) (by omega)
       exact h levelsL 0 (by decide)
theorem list_one {l:List Ex} {c:Ex} (h:l.length=1) {hi:0 < l.length} (hc:c=l[0]):l= [c]:=by
 match l,h with
 | [a],_=>rw [hc];rfl
theorem list_two {l:List Ex} {c d:Ex} (h:l.length=2) {hi:0 < l.length} {hj:1 < l.length} (hc:c=l[0]) (hd:d=l[1]):l= [c,d]:=by
 match l,h with
 | [a,b],_=>rw [hc,hd];rfl
def ChildAt (e:Ex) (least:Nat) (w:World) (x:Nat) (st:WS) (p v:Value) (l:List UInt8) (b o:Nat) (i l' d':Nat) (lv dv:Int) (c:Ex) (ap1:Option Addr) (cp1:Nat) (al1:Option Addr) (cl1:Nat):Prop:=
 (∀ W,Below x w W→W.cell? ⟨b,o+i * 5,none⟩=some (.string (toBA c.op))∧W.cell? ⟨b,o+i * 5+1,none⟩=some (.int .i64 c.n)∧W.cell? ⟨b,o+i * 5+2,none⟩=some (.string (toBA c.s))∧
   W.cell? ⟨b,o+i * 5+3,none⟩=some (.slice ap1 c.p.length cp1)∧W.cell? ⟨b,o+i * 5+4,none⟩=some (.slice al1 c.l.length cl1))∧
 ∀ (W:World) (st4:WS),WrC W x st4 p v l→Below x w W→st4.n+termK c l'≤st.n+termK e least→
   Calls Tryz.prog 66 #[.pointer (some ⟨x,0,none⟩),.agg #[.string (toBA c.op),.int .i64 c.n,.string (toBA c.s),.slice ap1 c.p.length cp1,.slice al1 c.l.length cl1],.int .i64 lv,.int .i64 dv] W (TextPost x W st4 p v l (64 * c.bulk - 4) (termK c l') (TW c l' d' st4))
theorem child_of {f:Nat} (hf:TermC f) {e:Ex} {least deep:Nat} {w:World} {x:Nat} {st:WS} {p v:Value} {l:List UInt8} {vp vl:Value} (H:TermIn e least deep w x st p v l vp vl) (hfe:termK e least≤f+1) {b o:Nat} (hb:Lo x b) (hrow:ExRow w (Lo x) e.l b o)
 (i:Nat) (hi:i < e.l.length) (l':Nat) (lv:Int) (hlv:lv=(l':Int)) (d':Nat) (dv:Int) (hdv:dv=(d':Int)) (hl':l'≤100) (hd:d'≤deep+1):∃ (c:Ex) (ap1:Option Addr) (cp1:Nat) (al1:Option Addr) (cl1:Nat),c=e.l[i]∧ChildAt e least w x st p v l b o i l' d' lv dv c ap1 cp1 al1 cl1:=by
 subst hlv hdv
 obtain ⟨vp1,vl1,q0,q1,q2,q3,q4,hp1,hx1⟩:=(hrow.at_ _ _ _ i hi).open_
 obtain ⟨ap1,cp1,rfl,hpr⟩:=hp1
 obtain ⟨al1,cl1,rfl,hxc,hxr⟩:=hx1
 have hm:=exs_mem (List.getElem_mem hi)
 have hnl:=Ex.nodes_l e
 have hbe:=Ex.bulk_eq e
 have hwe:=Ex.w_eq e
 have hk1:=termK_le e least
 have hk2:=termK_le e.l[i] l'
 have hde:=H.deepB
 have hn:=H.n
 have hbk:=H.bulk
 have hwt:=H.wt
 refine ⟨e.l[i],ap1,cp1,al1,cl1,rfl,fun W hW=> ?_,fun W st4 hw4 hW hn4=> ?_⟩
 · have hc:∀ o,W.cell? ⟨b,o,none⟩=w.cell? ⟨b,o,none⟩:=fun o=>hW.cell (p:=⟨b,o,none⟩) hb
   exact ⟨(hc _).trans q0,(hc _).trans q1,(hc _).trans q2,(hc _).trans q3,(hc _).trans q4⟩
 · refine (hf.use (by omega) ⟨exsFit_mem ((Ex.fit_eq e).1 H.fit).2 (List.getElem_mem hi),by omega,by omega,hl',by omega,by omega,hw4,H.glob.below hW,StrsAt.below ⟨ap1,cp1,rfl,hpr⟩ hW,ExsAt.below ⟨al1,cl1,rfl,hxc,hxr⟩ hW⟩).mono (fun _ _ h=>h.mono (termB_le e.l[i] l') (Nat.le_refl _))
theorem bare_parts {e:Ex} {n s p:Bool} {k:Nat} (h:bareL e n s p (some k)=true):e.l.length=k:=by
 unfold bareL at h
 simp only [Bool.and_eq_true,decide_eq_true_eq] at h
 exact h.2
theorem one_bulk {l:List Ex} (h:l.length=1) (hi:0 < l.length):exsBulk l=l[0].bulk∧exsNodes l=l[0].nodes:=by
 match l,h with
 | [a],_=>simp [exsBulk,exsNodes]
theorem two_bulk {l:List Ex} (h:l.length=2) (hi:0 < l.length) (hj:1 < l.length):exsBulk l=l[0].bulk+l[1].bulk∧exsNodes l=l[0].nodes+l[1].nodes:=by
 match l,h with
 | [a,b],_=>simp [exsBulk,exsNodes]
set_option maxRecDepth 100000 in
set_option maxHeartbeats 20000000 in
theorem term_neg {f:Nat} (hf:TermC f) {e:Ex} {least deep:Nat} {w:World} {x:Nat} {st:WS} {p v:Value} {l:List UInt8} {vp vl:Value} (H:TermIn e least deep w x st p v l vp vl) (hfe:termK e least≤f+1) (hok:st.look.ok=true) (hk:¬ rankL e.op < least) (hop:e.op=oNeg):
 Calls Tryz.prog 66 #[.pointer (some ⟨x,0,none⟩),.agg #[.string (toBA e.op),.int .i64 e.n,.string (toBA e.s),vp,vl],.int .i64 (least:Int),.int .i64 (deep:Int)] w (TextPost x w st p v l (64 * e.bulk - 8) (termK e least) (TW e least deep st)):=by
 have t1:decide (rankL e.op < least)=false:=by rw [decide_eq_false_iff_not];exact hk
 have u1:=op_is hop [105,110,116] (b:=false) rfl
 have u2:=op_is hop [115,116,114] (b:=false) rfl
 have u3:=op_is hop [110,97,109,101] (b:=false) rfl
 have u4:=op_is hop [78,111,110,101] (b:=false) rfl
 have u5:=op_is hop [84,114,117,101] (b:=false) rfl
 have u6:=op_is hop [70,97,108,115,101] (b:=false) rfl
 have u7:=op_is hop [110,101,103] (b:=true) rfl
 have u8:=op_is hop [110,111,116] (b:=false) rfl
 have KOK:=Lib.hid hok;have KK:=Lib.hid hk;have KO:=Lib.hid hop
 clear hop hk
 have hokm:∀ b,(st.look.must b).ok=b:=fun b=>by show (st.look.ok && b)=b;rw [hok];rfl
 have HF:=Lib.hid hf;have HFE:=Lib.hid hfe
 clear hf hfe
 have hn0:st.n≤50000000:=by have:=H.n;omega
 obtain ⟨ap,cp,rfl,hpcap,hpr⟩:=H.ps
 obtain ⟨al,cl,rfl,hlcap,hlr⟩:=H.ls
 have hal:=H.wr.alloc (.cells #[.string (toBA e.op),.int .i64 e.n,.string (toBA e.s),.slice ap e.p.length cp,.slice al e.l.length cl] 140)
 have hbx:BoxE (w.alloc (.cells #[.string (toBA e.op),.int .i64 e.n,.string (toBA e.s),.slice ap e.p.length cp,.slice al e.l.length cl] 140)) x w.heap.size e ap cp al cl:=⟨heap_alloc_new w _,hal.2.2⟩
 have hlook:=look_any hal.1 (show st.n≤100000000 by omega)
 have Hal:=Lib.hid hal;have Hbx:=Lib.hid hbx;have Hl:=Lib.hid hlr;have Hp:=Lib.hid hpr;have HH:=Lib.hid H
 have hbulk:=H.bulk
 have hleast:=H.leastB
 have hdeep:=H.deepB
 rw [hok] at hlook
 have Hlook:=Lib.hid hlook
 clear hlook hal hbx hlr hpr H hok
 go_enter Tryz.func66,Tryz.ntmps66
 go_wp2_with fail
 generalize w.alloc (.cells #[.string (toBA e.op),.int .i64 e.n,.string (toBA e.s),.slice ap e.p.length cp,.slice al e.l.length cl] 140)=wA at Hlook Hal Hbx ⊢
 generalize hbxn:w.heap.size=bx at Hbx ⊢
 clear hbxn
 refine Hlook.out.mono ?_
 rintro _ w1 ⟨rfl,h1,s1⟩
 have hb1:=Hbx.out.step s1
 have hs1:=Hal.out.2.1.trans s1
 clear Hlook
 have k0:=hb1.c0
 have hgl1:=HH.out.glob.below (WStp.below HH.out.wr hs1)
 have hrank:=rank_any (w:=w1) e.op hgl1
 have Hrank:=Lib.hid hrank;have Hb1:=Lib.hid hb1;have H1:=Lib.hid h1;have S1:=Lib.hid hs1;have Hgl1:=Lib.hid hgl1
 clear hrank hb1 h1 hs1 hgl1
 go_wp2_with fail
 refine Hrank.out.mono ?_
 rintro _ w2 ⟨rfl,rfl⟩
 clear Hrank
 have k1:=Hb1.out.c1
 have k2:=Hb1.out.c2
 have k3:=Hb1.out.c3
 have k4:=Hb1.out.c4
 go_wp2_with fail
 refine (bare_any w1 e ap al cp cl false false false (some 1)).mono ?_
 rintro _ w2 ⟨rfl,hb2⟩
 obtain ⟨h2,s2⟩:=H1.out.grow hb2
 have hb2:=Hb1.out.step s2
 have hs2:=S1.out.trans s2
 clear k0 k1 k2 k3 k4
 have k0:=hb2.c0
 have k1:=hb2.c1
 have k2:=hb2.c2
 have k3:=hb2.c3
 have k4:=hb2.c4
 have H2:=Lib.hid h2;have B2:=Lib.hid hb2;have S2:=Lib.hid hs2
 clear h2 hb2 hs2 s2
 rcases hbr:bareL e false false false (some 1) with _ | _
 · skip
   have hmust:=must_any H2.out false
   have Hmust:=Lib.hid hmust
   clear hmust
   go_wp2_with fail
   refine Hmust.out.mono ?_
   rintro _ w3 ⟨rfl,h3,s3⟩
   have hb3:=B2.out.step s3
   have hs3:=S2.out.trans s3
   clear k0 k1 k2 k3 k4 Hmust
   have k0:=hb3.c0
   have k1:=hb3.c1
   have k2:=hb3.c2
   have k3:=hb3.c3
   have k4:=hb3.c4
   have H3:=Lib.hid h3;have B3:=Lib.hid hb3;have S3:=Lib.hid hs3
   clear h3 hb3 hs3 s3
   have k5:=H3.out.c4
   rw [hokm false] at k5
   go_wp2_with fail
   refine bodyPost_ret (results_tmp rfl _ _ _) rfl ?_
   exact ⟨_,_,rfl,Nat.zero_le _,((Nx.look st 0 0).trans (Nx.must st.look false 0 0) (Nat.le_refl _) (Nat.le_refl _)).mono (by unfold termK;have:=Ex.nodes_l e;omega) (Nat.le_refl _),H3.out,S3.out,(TW.unBad KOK.out KK.out (.inl KO.out) hbr)⟩
 · have h1:=bare_parts hbr
   have hb1:=one_bulk h1 (by omega)
   obtain ⟨b,o,rfl,hbx0,hrow⟩:=Hl.out (by omega)
   obtain ⟨c,ap1,cp1,al1,cl1,hc,hch⟩:=child_of HF.out HH.out HFE.out hbx0 hrow 0 (by omega) (rankL e.op) _ rfl (deep+1) ((deep:Int)+1) (by omega) (by have:=rankL_le e.op;omega) (Nat.le_refl _)
   rw [← hc] at hb1
   obtain ⟨hc1,hc2⟩:=hch
   have HB1:=Lib.hid hb1;have HC1:=Lib.hid hc1;have HC2:=Lib.hid hc2;have KB:=Lib.hid hbr;have KL:=Lib.hid (list_one h1 hc)
   clear hb1 hc hc1 hc2 hrow hbr
   have hmust:=must_any H2.out true
   have Hmust:=Lib.hid hmust
   clear hmust
   go_wp2_with fail
   refine Hmust.out.mono ?_
   rintro _ w3 ⟨rfl,h3,s3⟩
   have hb3:=B2.out.step s3
   have hs3:=S2.out.trans s3
   clear k0 k1 k2 k3 k4 Hmust
   have k0:=hb3.c0
   have k1:=hb3.c1
   have k2:=hb3.c2
   have k3:=hb3.c3
   have k4:=hb3.c4
   have H3:=Lib.hid h3;have B3:=Lib.hid hb3;have S3:=Lib.hid hs3
   clear h3 hb3 hs3 s3
   have k5:=H3.out.c4
   rw [hokm true] at k5
   have hq3:=HC1.out _ (WStp.below HH.out.wr S3.out)
   obtain ⟨q0,q1,q2,q3,q4⟩:=hq3
   simp only [Nat.zero_mul,Nat.add_zero] at q0 q1 q2 q3 q4
   rw [h1] at k4
   have hb2:=HB1.out
   have hn4:((st.look.must true).deeper deep).n+termK c (rankL e.op)≤st.n+termK e least:=by
    show st.n+1+termK c (rankL e.op)≤st.n+termK e least
    have:=termK_le c (rankL e.op);have:=termK_le e least;have:=Ex.nodes_l e;omega
   have hcb:c.bulk≤1100000:=by have:=Ex.bulk_eq e;omega
   clear hb2
   have Hn4:=Lib.hid hn4
   clear hn4
   have H3d:=Lib.hid H3.out.drew;have S3d:=Lib.hid S3.out.drew;have B3d:=Lib.hid B3.out.drew
   go_upto_region 29 with fail
   go_region_with ((first
    | (go_at_call 67;(with_reducible refine (deeper_any H3d.out deep (by omega)).mono ?_);rintro _ w4 ⟨rfl,h4,s4⟩;have S4:=Lib.hid (S3d.out.trans s4);have k4:=(B3d.out.step s4).c4;rw [h1] at k4;obtain ⟨q0,q1,q2,q3,q4⟩:=HC1.out _ (WStp.below HH.out.wr S4.out);simp only [Nat.zero_mul,Nat.add_zero] at q0 q1 q2 q3 q4;have H4:=Lib.hid h4;clear h4 s4)
    | (go_at_call 66;(with_reducible refine (HC2.out _ _ H4.out (WStp.below HH.out.wr S4.out) Hn4.out).mono ?_);rintro _ w5 ⟨r,st5,rfl,hr,hn5,h5,s5,htw⟩;have HTW:=Lib.hid htw;clear htw;have hrb:r.size≤71000000:=(by omega);have Hr:=Lib.hid hr;have Hn5:=Lib.hid hn5;have H5:=Lib.hid h5;have S5:=Lib.hid s5;clear hr hn5 h5 s5)))
   all_goals
    go_wp2_with fail
    refine bodyPost_ret (results_tmp rfl _ _ _) rfl ?_
    refine ⟨_,st5,rfl,?_,?_,H5.out,S4.out.trans S5.out,?_⟩
    · rw [ByteArray.size_append]
      have:=Hr.out
      have:=Ex.bulk_pos c
      have:=Ex.bulk_eq e
      have:=HB1.out
      show 1+r.size≤_
      omega
    · refine (((Nx.look st 0 0).trans (Nx.must st.look true 0 0) (Nat.le_refl _) (Nat.le_refl _)).trans (Nx.deeper _ deep 0 0) (Nat.le_refl _) (Nat.le_refl _)).trans Hn5.out ?_ (Nat.le_refl _)
      have:=Hn4.out
      have h9:((st.look.must true).deeper deep).n=st.n+1:=rfl
      omega
    · have h9:=TW.un KOK.out KK.out (.inl KO.out) KB.out KL.out HTW.out
      rw [if_neg (by rw [KO.out];decide)] at h9
      rw [ByteArray.size_append]
      exact h9
end Go.Proofs.YtdoaeapahgmfoaaGreatDoor
namespace Go.Proofs.YtdoaeapahgmfoaaGreatDoor
open Go.RowKit
set_option maxRecDepth 100000 in
set_option maxHeartbeats 20000000 in
theorem term_par {f:Nat} (hf:TermC f) {e:Ex} {least deep:Nat} {w:World} {x:Nat} {st:WS} {p v:Value} {l:List UInt8} {vp vl:Value} (H:TermIn e least deep w x st p v l vp vl) (hfe:termK e least≤f+1) (hok:st.look.ok=true) (hk:rankL e.op < least):
 Calls Tryz.prog 66 #[.pointer (some ⟨x,0,none⟩),.agg #[.string (toBA e.op),.int .i64 e.n,.string (toBA e.s),vp,vl],.int .i64 (least:Int),.int .i64 (deep:Int)] w (TextPost x w st p v l (64 * e.bulk - 4) (termK e least) (TW e least deep st)):=by
 have t1:decide (rankL e.op < least)=true:=by rw [decide_eq_true_iff];exact hk
 have hl0:least≠0:=by omega
 have hcall:∀ (ap al:Option Addr) (cp cl:Nat) (W:World) (st4:WS),StrsAt w (Lo x) (.slice ap e.p.length cp) e.p→ExsAt w (Lo x) (.slice al e.l.length cl) e.l→WrC W x st4 p v l→Below x w W→st4.n≤st.n+1→
  Calls Tryz.prog 66 #[.pointer (some ⟨x,0,none⟩),.agg #[.string (toBA e.op),.int .i64 e.n,.string (toBA e.s),.slice ap e.p.length cp,.slice al e.l.length cl],.int .i64 0,.int .i64 ((deep:Int)+1)] W (TextPost x W st4 p v l (64 * e.bulk - 8) (3 * e.nodes) (TW e 0 (deep+1) st4)):=fun ap al cp cl W st4 hp hl h4 hb hn=>by
  have k1:termK e least=3 * e.nodes+1:=by unfold termK;rw [if_neg hl0]
  have k0:termK e 0=3 * e.nodes:=by unfold termK;rw [if_pos rfl];omega
  have hd:=H.deepB
  have hn2:=H.n
  have:=hf.use (least:=0) (deep:=deep+1) (by omega) ⟨H.fit,H.bulk,H.wt,by omega,by omega,by omega,h4,H.glob.below hb,hp.below hb,hl.below hb⟩
  unfold termB at this
  rw [if_pos rfl,Nat.add_zero,k0] at this
  exact this
 have hk1:termK e least=3 * e.nodes+1:=by unfold termK;rw [if_neg hl0]
 have HK1:=Lib.hid hk1
 have hok2:=hok
 have KOK:=Lib.hid hok;have KK:=Lib.hid hk
 clear hk hf hfe hk1 hl0
 have hn0:st.n≤50000000:=by have:=H.n;omega
 obtain ⟨ap,cp,rfl,hpcap,hpr⟩:=H.ps
 obtain ⟨al,cl,rfl,hlcap,hlr⟩:=H.ls
 have hal:=H.wr.alloc (.cells #[.string (toBA e.op),.int .i64 e.n,.string (toBA e.s),.slice ap e.p.length cp,.slice al e.l.length cl] 140)
 have hbx:BoxE (w.alloc (.cells #[.string (toBA e.op),.int .i64 e.n,.string (toBA e.s),.slice ap e.p.length cp,.slice al e.l.length cl] 140)) x w.heap.size e ap cp al cl:=⟨heap_alloc_new w _,hal.2.2⟩
 have hlook:=look_any hal.1 (show st.n≤100000000 by omega)
 have Hal:=Lib.hid hal;have Hbx:=Lib.hid hbx;have Hl:=Lib.hid hlr;have Hp:=Lib.hid hpr;have HH:=Lib.hid H
 have hbulk:=H.bulk
 have hleast:=H.leastB
 have hdeep:=H.deepB
 have hcall:=hcall ap al cp cl
 have Hcall0:=Lib.hid hcall;have Hps:=Lib.hid H.ps;have Hls:=Lib.hid H.ls
 clear hcall hok2
 rw [hok] at hlook
 have Hlook:=Lib.hid hlook
 clear hlook hal hbx hlr hpr H hok
 go_enter Tryz.func66,Tryz.ntmps66
 go_wp2_with fail
 generalize w.alloc (.cells #[.string (toBA e.op),.int .i64 e.n,.string (toBA e.s),.slice ap e.p.length cp,.slice al e.l.length cl] 140)=wA at Hlook Hal Hbx ⊢
 generalize hbxn:w.heap.size=bx at Hbx ⊢
 clear hbxn
 refine Hlook.out.mono ?_
 rintro _ w1 ⟨rfl,h1,s1⟩
 have hb1:=Hbx.out.step s1
 have hs1:=Hal.out.2.1.trans s1
 clear Hlook
 have k0:=hb1.c0
 have hgl1:=HH.out.glob.below (WStp.below HH.out.wr hs1)
 have hrank:=rank_any (w:=w1) e.op hgl1
 have Hrank:=Lib.hid hrank;have Hb1:=Lib.hid hb1;have H1:=Lib.hid h1;have S1:=Lib.hid hs1;have Hgl1:=Lib.hid hgl1
 clear hrank hb1 h1 hs1 hgl1
 go_wp2_with fail
 refine Hrank.out.mono ?_
 rintro _ w2 ⟨rfl,rfl⟩
 clear Hrank
 have k1:=Hb1.out.c1
 have k2:=Hb1.out.c2
 have k3:=Hb1.out.c3
 have k4:=Hb1.out.c4
 have H1d:=Lib.hid H1.out.drew;have S1d:=Lib.hid S1.out.drew;have B1d:=Lib.hid Hb1.out.drew
 go_upto_region 5 with fail
 go_region_with ((first
  | (go_at_call 67;(with_reducible refine (deeper_any H1d.out deep (by omega)).mono ?_);rintro _ w7 ⟨rfl,h7,s7⟩;have S7:=Lib.hid (S1d.out.trans s7);have B7:=B1d.out.step s7;have k0:=B7.c0;have k1:=B7.c1;have k2:=B7.c2;have k3:=B7.c3;have k4:=B7.c4;clear B7;have H7:=Lib.hid h7;clear h7 s7)
  | (go_at_call 66;(with_reducible refine (Hcall0.out _ _ Hps.out Hls.out H7.out (WStp.below HH.out.wr S7.out) (Nat.le_refl _)).mono ?_);rintro _ w8 ⟨r8,st8,rfl,hr,hn,h,s,htw⟩;have T8:=Lib.hid htw;have hrb:r8.size≤71000000:=(by omega);have Hr8:=Lib.hid hr;have Hn8:=Lib.hid hn;have H8:=Lib.hid h;have S8:=Lib.hid s;clear hr hn h s htw)))
 all_goals
  go_wp2_with fail
  refine bodyPost_ret (results_tmp rfl _ _ _) rfl ?_
  refine ⟨_,st8,rfl,?_,?_,H8.out,S7.out.trans S8.out,?_⟩
  · rw [ByteArray.size_append,ByteArray.size_append]
    have:=Hr8.out
    have:=Ex.bulk_pos e
    show 1+r8.size+1≤_
    omega
  · rw [HK1.out]
    exact ((Nx.look st 0 0).trans (Nx.deeper _ deep 0 0) (Nat.le_refl _) (Nat.le_refl _)).trans Hn8.out (by omega) (Nat.le_refl _)
  · have h9:=TW.paren KOK.out KK.out T8.out
    rw [show r8.size+2=1+r8.size+1 by omega] at h9
    rw [ByteArray.size_append,ByteArray.size_append]
    exact h9
set_option maxRecDepth 100000 in
set_option maxHeartbeats 20000000 in
theorem term_not {f:Nat} (hf:TermC f) {e:Ex} {least deep:Nat} {w:World} {x:Nat} {st:WS} {p v:Value} {l:List UInt8} {vp vl:Value} (H:TermIn e least deep w x st p v l vp vl) (hfe:termK e least≤f+1) (hok:st.look.ok=true) (hk:¬ rankL e.op < least)(hop:e.op=oNot):
 Calls Tryz.prog 66 #[.pointer (some ⟨x,0,none⟩),.agg #[.string (toBA e.op),.int .i64 e.n,.string (toBA e.s),vp,vl],.int .i64 (least:Int),.int .i64 (deep:Int)] w (TextPost x w st p v l (64 * e.bulk - 8) (termK e least) (TW e least deep st)):=by
 have t1:decide (rankL e.op < least)=false:=by rw [decide_eq_false_iff_not];exact hk
 have u1:=op_is hop [105,110,116] (b:=false) rfl
 have u2:=op_is hop [115,116,114] (b:=false) rfl
 have u3:=op_is hop [110,97,109,101] (b:=false) rfl
 have u4:=op_is hop [78,111,110,101] (b:=false) rfl
 have u5:=op_is hop [84,114,117,101] (b:=false) rfl
 have u6:=op_is hop [70,97,108,115,101] (b:=false) rfl
 have u7:=op_is hop [110,101,103] (b:=false) rfl
 have u8:=op_is hop [110,111,116] (b:=true) rfl
 have KOK:=Lib.hid hok;have KK:=Lib.hid hk;have KO:=Lib.hid hop
 clear hop hk
 have hokm:∀ b,(st.look.must b).ok=b:=fun b=>by show (st.look.ok && b)=b;rw [hok];rfl
 have HF:=Lib.hid hf;have HFE:=Lib.hid hfe
 clear hf hfe
 have hn0:st.n≤50000000:=by have:=H.n;omega
 obtain ⟨ap,cp,rfl,hpcap,hpr⟩:=H.ps
 obtain ⟨al,cl,rfl,hlcap,hlr⟩:=H.ls
 have hal:=H.wr.alloc (.cells #[.string (toBA e.op),.int .i64 e.n,.string (toBA e.s),.slice ap e.p.length cp,.slice al e.l.length cl] 140)
 have hbx:BoxE (w.alloc (.cells #[.string (toBA e.op),.int .i64 e.n,.string (toBA e.s),.slice ap e.p.length cp,.slice al e.l.length cl] 140)) x w.heap.size e ap cp al cl:=⟨heap_alloc_new w _,hal.2.2⟩
 have hlook:=look_any hal.1 (show st.n≤100000000 by omega)
 have Hal:=Lib.hid hal;have Hbx:=Lib.hid hbx;have Hl:=Lib.hid hlr;have Hp:=Lib.hid hpr;have HH:=Lib.hid H
 have hbulk:=H.bulk
 have hleast:=H.leastB
 have hdeep:=H.deepB
 rw [hok] at hlook
 have Hlook:=Lib.hid hlook
 clear hlook hal hbx hlr hpr H hok
 go_enter Tryz.func66,Tryz.ntmps66
 go_wp2_with fail
 generalize w.alloc (.cells #[.string (toBA e.op),.int .i64 e.n,.string (toBA e.s),.slice ap e.p.length cp,.slice al e.l.length cl] 140)=wA at Hlook Hal Hbx ⊢
 generalize hbxn:w.heap.size=bx at Hbx ⊢
 clear hbxn
 refine Hlook.out.mono ?_
 rintro _ w1 ⟨rfl,h1,s1⟩
 have hb1:=Hbx.out.step s1
 have hs1:=Hal.out.2.1.trans s1
 clear Hlook
 have k0:=hb1.c0
 have hgl1:=HH.out.glob.below (WStp.below HH.out.wr hs1)
 have hrank:=rank_any (w:=w1) e.op hgl1
 have Hrank:=Lib.hid hrank;have Hb1:=Lib.hid hb1;have H1:=Lib.hid h1;have S1:=Lib.hid hs1;have Hgl1:=Lib.hid hgl1
 clear hrank hb1 h1 hs1 hgl1
 go_wp2_with fail
 refine Hrank.out.mono ?_
 rintro _ w2 ⟨rfl,rfl⟩
 clear Hrank
 have k1:=Hb1.out.c1
 have k2:=Hb1.out.c2
 have k3:=Hb1.out.c3
 have k4:=Hb1.out.c4
 go_wp2_with fail
 refine (bare_any w1 e ap al cp cl false false false (some 1)).mono ?_
 rintro _ w2 ⟨rfl,hb2⟩
 obtain ⟨h2,s2⟩:=H1.out.grow hb2
 have hb2:=Hb1.out.step s2
 have hs2:=S1.out.trans s2
 clear k0 k1 k2 k3 k4
 have k0:=hb2.c0
 have k1:=hb2.c1
 have k2:=hb2.c2
 have k3:=hb2.c3
 have k4:=hb2.c4
 have H2:=Lib.hid h2;have B2:=Lib.hid hb2;have S2:=Lib.hid hs2
 clear h2 hb2 hs2 s2
 rcases hbr:bareL e false false false (some 1) with _ | _
 · skip
   have hmust:=must_any H2.out false
   have Hmust:=Lib.hid hmust
   clear hmust
   go_wp2_with fail
   refine Hmust.out.mono ?_
   rintro _ w3 ⟨rfl,h3,s3⟩
   have hb3:=B2.out.step s3
   have hs3:=S2.out.trans s3
   clear k0 k1 k2 k3 k4 Hmust
   have k0:=hb3.c0
   have k1:=hb3.c1
   have k2:=hb3.c2
   have k3:=hb3.c3
   have k4:=hb3.c4
   have H3:=Lib.hid h3;have B3:=Lib.hid hb3;have S3:=Lib.hid hs3
   clear h3 hb3 hs3 s3
   have k5:=H3.out.c4
   rw [hokm false] at k5
   go_wp2_with fail
   refine bodyPost_ret (results_tmp rfl _ _ _) rfl ?_
   exact ⟨_,_,rfl,Nat.zero_le _,((Nx.look st 0 0).trans (Nx.must st.look false 0 0) (Nat.le_refl _) (Nat.le_refl _)).mono (by unfold termK;have:=Ex.nodes_l e;omega) (Nat.le_refl _),H3.out,S3.out,(TW.unBad KOK.out KK.out (.inr KO.out) hbr)⟩
 · have h1:=bare_parts hbr
   have hb1:=one_bulk h1 (by omega)
   obtain ⟨b,o,rfl,hbx0,hrow⟩:=Hl.out (by omega)
   obtain ⟨c,ap1,cp1,al1,cl1,hc,hch⟩:=child_of HF.out HH.out HFE.out hbx0 hrow 0 (by omega) (rankL e.op) _ rfl (deep+1) ((deep:Int)+1) (by omega) (by have:=rankL_le e.op;omega) (Nat.le_refl _)
   rw [← hc] at hb1
   obtain ⟨hc1,hc2⟩:=hch
   have HB1:=Lib.hid hb1;have HC1:=Lib.hid hc1;have HC2:=Lib.hid hc2;have KB:=Lib.hid hbr;have KL:=Lib.hid (list_one h1 hc)
   have hb2:=hb1
   clear hb1 hc hc1 hc2 hrow hbr
   have hmust:=must_any H2.out true
   have Hmust:=Lib.hid hmust
   clear hmust
   go_wp2_with fail
   refine Hmust.out.mono ?_
   rintro _ w3 ⟨rfl,h3,s3⟩
   have hb3:=B2.out.step s3
   have hs3:=S2.out.trans s3
   clear k0 k1 k2 k3 k4 Hmust
   have k0:=hb3.c0
   have k1:=hb3.c1
   have k2:=hb3.c2
   have k3:=hb3.c3
   have k4:=hb3.c4
   have H3:=Lib.hid h3;have B3:=Lib.hid hb3;have S3:=Lib.hid hs3
   clear h3 hb3 hs3 s3
   have k5:=H3.out.c4
   rw [hokm true] at k5
   obtain ⟨q0,q1,q2,q3,q4⟩:=HC1.out _ (WStp.below HH.out.wr S3.out)
   simp only [Nat.zero_mul,Nat.add_zero] at q0 q1 q2 q3 q4
   rw [h1] at k4
   have hn4:((st.look.must true).deeper deep).n+termK c (rankL e.op)≤st.n+termK e least:=by
    show st.n+1+termK c (rankL e.op)≤st.n+termK e least
    have:=termK_le c (rankL e.op);have:=termK_le e least;have:=Ex.nodes_l e;omega
   have hcb:c.bulk≤1100000:=by have:=Ex.bulk_eq e;omega
   clear hb2
   have Hn4:=Lib.hid hn4
   clear hn4
   have H3d:=Lib.hid H3.out.drew;have S3d:=Lib.hid S3.out.drew;have B3d:=Lib.hid B3.out.drew
   go_upto_region 29 with fail
   go_region_with ((first
    | (go_at_call 67;(with_reducible refine (deeper_any H3d.out deep (by omega)).mono ?_);rintro _ w7 ⟨rfl,h7,s7⟩;have S7:=Lib.hid (S3d.out.trans s7);have k4:=(B3d.out.step s7).c4;rw [h1] at k4;obtain ⟨q0,q1,q2,q3,q4⟩:=HC1.out _ (WStp.below HH.out.wr S7.out);simp only [Nat.zero_mul,Nat.add_zero] at q0 q1 q2 q3 q4;have H7:=Lib.hid h7;clear h7 s7)
    | (go_at_call 66;(with_reducible refine (HC2.out _ _ H7.out (WStp.below HH.out.wr S7.out) Hn4.out).mono ?_);rintro _ w8 ⟨r8,st8,rfl,hr,hn,h,s,htw⟩;have T8:=Lib.hid htw;have hrb8:r8.size≤71000000:=(by omega);have Hr8:=Lib.hid hr;have Hn8:=Lib.hid hn;have H8:=Lib.hid h;have S8:=Lib.hid s;clear hr hn h s htw)))
   all_goals
    go_wp2_with fail
    refine bodyPost_ret (results_tmp rfl _ _ _) rfl ?_
    refine ⟨_,st8,rfl,?_,?_,H8.out,S7.out.trans S8.out,?_⟩
    · rw [ByteArray.size_append]
      have:=Hr8.out
      have:=Ex.bulk_pos c
      have:=Ex.bulk_eq e
      have:=HB1.out
      show 4+r8.size≤_
      omega
    · refine (((Nx.look st 0 0).trans (Nx.must st.look true 0 0) (Nat.le_refl _) (Nat.le_refl _)).trans (Nx.deeper _ deep 0 0) (Nat.le_refl _) (Nat.le_refl _)).trans Hn8.out ?_ (Nat.le_refl _)
      have:=Hn4.out
      have h9:((st.look.must true).deeper deep).n=st.n+1:=rfl
      omega
    · have h9:=TW.un KOK.out KK.out (.inr KO.out) KB.out KL.out T8.out
      rw [if_pos KO.out] at h9
      rw [ByteArray.size_append]
      exact h9
end Go.Proofs.YtdoaeapahgmfoaaGreatDoor

/- The writer's term: its parts without terms within. -/
import Derived.Lib.ItoaLen
import Derived.Test.YtdoaeapahgmfoaaGreatDoorZ14
namespace Go.Proofs.YtdoaeapahgmfoaaGreatDoor
open Go.RowKit
structure BoxE (W:World) (x bx:Nat) (e:Ex) (ap:Option Addr) (cp:Nat) (al:Option Addr) (cl:Nat):Prop where
 blk:W.heap[bx]? =some (.cells #[.string (toBA e.op),.int .i64 e.n,.string (toBA e.s),.slice ap e.p.length cp,.slice al e.l.length cl] 140 (0,0))
 safe:WSafe W x bx
section
variable {W W':World} {x bx:Nat} {e:Ex} {ap:Option Addr} {cp:Nat} {al:Option Addr} {cl:Nat}
theorem BoxE.step (h:BoxE W x bx e ap cp al cl) (s:WStp x W W'):BoxE W' x bx e ap cp al cl:=⟨(s.safe bx h.safe).2.trans h.blk,(s.safe bx h.safe).1⟩
theorem BoxE.c0 (h:BoxE W x bx e ap cp al cl):W.cell? ⟨bx,0,none⟩=some (.string (toBA e.op)):=by rw [cell_of_blk h.blk];rfl
theorem BoxE.c1 (h:BoxE W x bx e ap cp al cl):W.cell? ⟨bx,1,none⟩=some (.int .i64 e.n):=by rw [cell_of_blk h.blk];rfl
theorem BoxE.c2 (h:BoxE W x bx e ap cp al cl):W.cell? ⟨bx,2,none⟩=some (.string (toBA e.s)):=by rw [cell_of_blk h.blk];rfl
theorem BoxE.c3 (h:BoxE W x bx e ap cp al cl):W.cell? ⟨bx,3,none⟩=some (.slice ap e.p.length cp):=by rw [cell_of_blk h.blk];rfl
theorem BoxE.c4 (h:BoxE W x bx e ap cp al cl):W.cell? ⟨bx,4,none⟩=some (.slice al e.l.length cl):=by rw [cell_of_blk h.blk];rfl
end
theorem fmt_any {w:World} {B:Nat} (n:Int) (hn:intFit n) (hg:GlobT B w):
 Calls Tryz.prog 106 #[.int .i64 n,.int .i64 10] w (StrPost w 21 (intLen n)):=by
 obtain ⟨h0,h1⟩:=hn
 refine (Tryz.strconv_FormatInt_10 n h0 h1 w hg.pow).mono ?_
 rintro e w' ⟨rfl,k,os,rfl⟩
 refine ⟨_,rfl,?_,⟨rfl,rfl,rfl,by show w.heap.size≤(w.heap ++ os).size;rw [Array.size_append];omega,fun i hi=>by
  show (w.heap ++ os)[i]? =w.heap[i]?
  rw [Array.getElem?_append_left hi]⟩,List.size_toArray ..⟩
 have:=Lib.itoa_length_le n h0 h1
 show (Lib.itoa n).toArray.size≤21
 simpa using this
theorem quotedL_len (l:List UInt8):(quotedL l).length≤2+4 * l.length:=by
 have:=qL_len l
 unfold quotedL
 simp only [List.length_append,List.length_cons,List.length_nil]
 omega
theorem op_is {op o:List UInt8} (h:op=o) (W:List UInt8) {b:Bool} (hb:(o == W)=b):((toBA op).toList == W)=b:=by rw [m_toList,h];exact hb
structure TermIn (e:Ex) (least deep:Nat) (w:World) (x:Nat) (st:WS) (p v:Value) (l:List UInt8) (vp vl:Value):Prop where
 fit:e.fit
 bulk:e.bulk≤1100000
 wt:e.w≤6000
 leastB:least≤100
 deepB:deep+termK e least≤50000000
 n:st.n+termK e least≤50000000
 wr:WrC w x st p v l
 glob:GlobT x w
 ps:StrsAt w (Lo x) vp e.p
 ls:ExsAt w (Lo x) vl e.l
set_option maxRecDepth 100000 in
set_option maxHeartbeats 20000000 in
theorem term_no {e:Ex} {least deep:Nat} {w:World} {x:Nat} {st:WS} {p v:Value} {l:List UInt8} {vp vl:Value} (H:TermIn e least deep w x st p v l vp vl) (hok:st.look.ok=false):
 Calls Tryz.prog 66 #[.pointer (some ⟨x,0,none⟩),.agg #[.string (toBA e.op),.int .i64 e.n,.string (toBA e.s),vp,vl],.int .i64 (least:Int),.int .i64 (deep:Int)] w (TextPost x w st p v l (64 * e.bulk - 8) (termK e least) (TW e least deep st)):=by
 have KOK:=Lib.hid hok
 have hn0:st.n≤50000000:=by have:=H.n;omega
 obtain ⟨ap,cp,rfl,hpcap,hpr⟩:=H.ps
 obtain ⟨al,cl,rfl,hlcap,hlr⟩:=H.ls
 have hal:=H.wr.alloc (.cells #[.string (toBA e.op),.int .i64 e.n,.string (toBA e.s),.slice ap e.p.length cp,.slice al e.l.length cl] 140)
 have hbx:BoxE (w.alloc (.cells #[.string (toBA e.op),.int .i64 e.n,.string (toBA e.s),.slice ap e.p.length cp,.slice al e.l.length cl] 140)) x w.heap.size e ap cp al cl:=⟨heap_alloc_new w _,hal.2.2⟩
 have hlook:=look_any hal.1 (show st.n≤100000000 by omega)
 have Hal:=Lib.hid hal;have Hbx:=Lib.hid hbx;have Hl:=Lib.hid hlr;have Hp:=Lib.hid hpr;have HH:=Lib.hid H
 have hbulk:=H.bulk
 have hleast:=H.leastB
 have hdeep:=H.deepB
 rw [hok] at hlook
 have Hlook:=Lib.hid hlook
 clear hlook hal hbx hlr hpr H hok
 go_enter Tryz.func66,Tryz.ntmps66
 go_wp2_with fail
 generalize w.alloc (.cells #[.string (toBA e.op),.int .i64 e.n,.string (toBA e.s),.slice ap e.p.length cp,.slice al e.l.length cl] 140)=wA at Hlook Hal Hbx ⊢
 generalize hbxn:w.heap.size=bx at Hbx ⊢
 clear hbxn
 refine Hlook.out.mono ?_
 rintro _ w1 ⟨rfl,h1,s1⟩
 have hb1:=Hbx.out.step s1
 have hs1:=Hal.out.2.1.trans s1
 clear Hlook
 go_wp2_with fail
 refine bodyPost_ret (results_tmp rfl _ _ _) rfl ?_
 exact ⟨_,_,rfl,Nat.zero_le _,(Nx.look st 0 0).mono (by unfold termK;have:=Ex.nodes_l e;omega) (Nat.le_refl _),h1,hs1,TW.off KOK.out⟩
set_option maxRecDepth 100000 in
set_option maxHeartbeats 20000000 in
theorem term_int {e:Ex} {least deep:Nat} {w:World} {x:Nat} {st:WS} {p v:Value} {l:List UInt8} {vp vl:Value} (H:TermIn e least deep w x st p v l vp vl) (hok:st.look.ok=true) (hk:¬ rankL e.op < least) (hop:e.op=oInt):
 Calls Tryz.prog 66 #[.pointer (some ⟨x,0,none⟩),.agg #[.string (toBA e.op),.int .i64 e.n,.string (toBA e.s),vp,vl],.int .i64 (least:Int),.int .i64 (deep:Int)] w (TextPost x w st p v l (64 * e.bulk - 8) (termK e least) (TW e least deep st)):=by
 have t1:decide (rankL e.op < least)=false:=by rw [decide_eq_false_iff_not];exact hk
 have u1:=op_is hop [105,110,116] (b:=true) rfl
 have KOK:=Lib.hid hok;have KK:=Lib.hid hk;have KO:=Lib.hid hop
 clear hop hk
 have hn0:st.n≤50000000:=by have:=H.n;omega
 obtain ⟨ap,cp,rfl,hpcap,hpr⟩:=H.ps
 obtain ⟨al,cl,rfl,hlcap,hlr⟩:=H.ls
 have hal:=H.wr.alloc (.cells #[.string (toBA e.op),.int .i64 e.n,.string (toBA e.s),.slice ap e.p.length cp,.slice al e.l.length cl] 140)
 have hbx:BoxE (w.alloc (.cells #[.string (toBA e.op),.int .i64 e.n,.string (toBA e.s),.slice ap e.p.length cp,.slice al e.l.length cl] 140)) x w.heap.size e ap cp al cl:=⟨heap_alloc_new w _,hal.2.2⟩
 have hlook:=look_any hal.1 (show st.n≤100000000 by omega)
 have Hal:=Lib.hid hal;have Hbx:=Lib.hid hbx;have Hl:=Lib.hid hlr;have Hp:=Lib.hid hpr;have HH:=Lib.hid H
 have hbulk:=H.bulk
 have hleast:=H.leastB
 have hdeep:=H.deepB
 rw [hok] at hlook
 have Hlook:=Lib.hid hlook
 clear hlook hal hbx hlr hpr H hok
 go_enter Tryz.func66,Tryz.ntmps66
 go_wp2_with fail
 generalize w.alloc (.cells #[.string (toBA e.op),.int .i64 e.n,.string (toBA e.s),.slice ap e.p.length cp,.slice al e.l.length cl] 140)=wA at Hlook Hal Hbx ⊢
 generalize hbxn:w.heap.size=bx at Hbx ⊢
 clear hbxn
 refine Hlook.out.mono ?_
 rintro _ w1 ⟨rfl,h1,s1⟩
 have hb1:=Hbx.out.step s1
 have hs1:=Hal.out.2.1.trans s1
 clear Hlook
 have k0:=hb1.c0
 have hgl1:=HH.out.glob.below (WStp.below HH.out.wr hs1)
 have hrank:=rank_any (w:=w1) e.op hgl1
 have Hrank:=Lib.hid hrank;have Hb1:=Lib.hid hb1;have H1:=Lib.hid h1;have S1:=Lib.hid hs1;have Hgl1:=Lib.hid hgl1
 clear hrank hb1 h1 hs1 hgl1
 go_wp2_with fail
 refine Hrank.out.mono ?_
 rintro _ w2 ⟨rfl,rfl⟩
 clear Hrank
 have k1:=Hb1.out.c1
 have k2:=Hb1.out.c2
 have k3:=Hb1.out.c3
 have k4:=Hb1.out.c4
 go_wp2_with fail
 refine (bare_any w1 e ap al cp cl true false false (some 0)).mono ?_
 rintro _ w2 ⟨rfl,hb2⟩
 obtain ⟨h2,s2⟩:=H1.out.grow hb2
 have hb2:=Hb1.out.step s2
 have hs2:=S1.out.trans s2
 clear k0 k1 k2 k3 k4
 have k0:=hb2.c0
 have k1:=hb2.c1
 have k2:=hb2.c2
 have k3:=hb2.c3
 have k4:=hb2.c4
 have H2:=Lib.hid h2;have B2:=Lib.hid hb2;have S2:=Lib.hid hs2
 clear h2 hb2 hs2 s2
 rcases hbr:bareL e true false false (some 0) with _ | _
 · skip
   have hmust:=must_any H2.out false
   have Hmust:=Lib.hid hmust
   clear hmust
   go_wp2_with fail
   refine Hmust.out.mono ?_
   rintro _ w3 ⟨rfl,h3,s3⟩
   have hb3:=B2.out.step s3
   have hs3:=S2.out.trans s3
   clear k0 k1 k2 k3 k4 Hmust
   have k0:=hb3.c0
   have k1:=hb3.c1
   have k2:=hb3.c2
   have k3:=hb3.c3
   have k4:=hb3.c4
   have H3:=Lib.hid h3;have B3:=Lib.hid hb3;have S3:=Lib.hid hs3
   clear h3 hb3 hs3 s3
   have hfmt:=fmt_any (w:=w3) e.n ((Ex.fit_eq e).1 HH.out.fit).1 (HH.out.glob.below (WStp.below HH.out.wr S3.out))
   have Hfmt:=Lib.hid hfmt
   clear hfmt
   go_wp2_with fail
   refine Hfmt.out.mono ?_
   rintro _ w4 ⟨r,rfl,hr,hb4,hrn⟩
   obtain ⟨h4,s4⟩:=H3.out.grow hb4
   go_wp2_with fail
   refine bodyPost_ret (results_tmp rfl _ _ _) rfl ?_
   exact ⟨r,_,rfl,by have:=Ex.bulk_pos e;omega,((Nx.look st 0 0).trans (Nx.must st.look false 0 0) (Nat.le_refl _) (Nat.le_refl _)).mono (by unfold termK;have:=Ex.nodes_l e;omega) (Nat.le_refl _),h4,S3.out.trans s4,TW.int' KOK.out KK.out KO.out (by rw [hbr];rfl) hrn⟩
 · by_cases hn:0≤e.n
   · have t2:decide ((0:Int)≤e.n)=true:=by simpa using hn
     have hmust:=must_any H2.out true
     have Hmust:=Lib.hid hmust
     clear hmust
     go_wp2_with fail
     refine Hmust.out.mono ?_
     rintro _ w3 ⟨rfl,h3,s3⟩
     have hb3:=B2.out.step s3
     have hs3:=S2.out.trans s3
     clear k0 k1 k2 k3 k4 Hmust
     have k0:=hb3.c0
     have k1:=hb3.c1
     have k2:=hb3.c2
     have k3:=hb3.c3
     have k4:=hb3.c4
     have H3:=Lib.hid h3;have B3:=Lib.hid hb3;have S3:=Lib.hid hs3
     clear h3 hb3 hs3 s3
     have hfmt:=fmt_any (w:=w3) e.n ((Ex.fit_eq e).1 HH.out.fit).1 (HH.out.glob.below (WStp.below HH.out.wr S3.out))
     have Hfmt:=Lib.hid hfmt
     clear hfmt
     go_wp2_with fail
     refine Hfmt.out.mono ?_
     rintro _ w4 ⟨r,rfl,hr,hb4,hrn⟩
     obtain ⟨h4,s4⟩:=H3.out.grow hb4
     go_wp2_with fail
     refine bodyPost_ret (results_tmp rfl _ _ _) rfl ?_
     exact ⟨r,_,rfl,by have:=Ex.bulk_pos e;omega,((Nx.look st 0 0).trans (Nx.must st.look true 0 0) (Nat.le_refl _) (Nat.le_refl _)).mono (by unfold termK;have:=Ex.nodes_l e;omega) (Nat.le_refl _),h4,S3.out.trans s4,TW.int' KOK.out KK.out KO.out (by rw [hbr,decide_eq_true hn];rfl) hrn⟩
   · have t2:decide ((0:Int)≤e.n)=false:=by simpa using hn
     have hmust:=must_any H2.out false
     have Hmust:=Lib.hid hmust
     clear hmust
     go_wp2_with fail
     refine Hmust.out.mono ?_
     rintro _ w3 ⟨rfl,h3,s3⟩
     have hb3:=B2.out.step s3
     have hs3:=S2.out.trans s3
     clear k0 k1 k2 k3 k4 Hmust
     have k0:=hb3.c0
     have k1:=hb3.c1
     have k2:=hb3.c2
     have k3:=hb3.c3
     have k4:=hb3.c4
     have H3:=Lib.hid h3;have B3:=Lib.hid hb3;have S3:=Lib.hid hs3
     clear h3 hb3 hs3 s3
     have hfmt:=fmt_any (w:=w3) e.n ((Ex.fit_eq e).1 HH.out.fit).1 (HH.out.glob.below (WStp.below HH.out.wr S3.out))
     have Hfmt:=Lib.hid hfmt
     clear hfmt
     go_wp2_with fail
     refine Hfmt.out.mono ?_
     rintro _ w4 ⟨r,rfl,hr,hb4,hrn⟩
     obtain ⟨h4,s4⟩:=H3.out.grow hb4
     go_wp2_with fail
     refine bodyPost_ret (results_tmp rfl _ _ _) rfl ?_
     exact ⟨r,_,rfl,by have:=Ex.bulk_pos e;omega,((Nx.look st 0 0).trans (Nx.must st.look false 0 0) (Nat.le_refl _) (Nat.le_refl _)).mono (by unfold termK;have:=Ex.nodes_l e;omega) (Nat.le_refl _),h4,S3.out.trans s4,TW.int' KOK.out KK.out KO.out (by rw [hbr,decide_eq_false (Int.not_le.2 hn)];rfl) hrn⟩
set_option maxRecDepth 100000 in
set_option maxHeartbeats 20000000 in
theorem term_str {e:Ex} {least deep:Nat} {w:World} {x:Nat} {st:WS} {p v:Value} {l:List UInt8} {vp vl:Value} (H:TermIn e least deep w x st p v l vp vl) (hok:st.look.ok=true) (hk:¬ rankL e.op < least) (hop:e.op=oStr):
 Calls Tryz.prog 66 #[.pointer (some ⟨x,0,none⟩),.agg #[.string (toBA e.op),.int .i64 e.n,.string (toBA e.s),vp,vl],.int .i64 (least:Int),.int .i64 (deep:Int)] w (TextPost x w st p v l (64 * e.bulk - 8) (termK e least) (TW e least deep st)):=by
 have t1:decide (rankL e.op < least)=false:=by rw [decide_eq_false_iff_not];exact hk
 have u1:=op_is hop [105,110,116] (b:=false) rfl
 have u2:=op_is hop [115,116,114] (b:=true) rfl
 have KOK:=Lib.hid hok;have KK:=Lib.hid hk;have KO:=Lib.hid hop
 clear hop hk
 have hn0:st.n≤50000000:=by have:=H.n;omega
 obtain ⟨ap,cp,rfl,hpcap,hpr⟩:=H.ps
 obtain ⟨al,cl,rfl,hlcap,hlr⟩:=H.ls
 have hal:=H.wr.alloc (.cells #[.string (toBA e.op),.int .i64 e.n,.string (toBA e.s),.slice ap e.p.length cp,.slice al e.l.length cl] 140)
 have hbx:BoxE (w.alloc (.cells #[.string (toBA e.op),.int .i64 e.n,.string (toBA e.s),.slice ap e.p.length cp,.slice al e.l.length cl] 140)) x w.heap.size e ap cp al cl:=⟨heap_alloc_new w _,hal.2.2⟩
 have hlook:=look_any hal.1 (show st.n≤100000000 by omega)
 have Hal:=Lib.hid hal;have Hbx:=Lib.hid hbx;have Hl:=Lib.hid hlr;have Hp:=Lib.hid hpr;have HH:=Lib.hid H
 have hbulk:=H.bulk
 have hleast:=H.leastB
 have hdeep:=H.deepB
 rw [hok] at hlook
 have Hlook:=Lib.hid hlook
 clear hlook hal hbx hlr hpr H hok
 go_enter Tryz.func66,Tryz.ntmps66
 go_wp2_with fail
 generalize w.alloc (.cells #[.string (toBA e.op),.int .i64 e.n,.string (toBA e.s),.slice ap e.p.length cp,.slice al e.l.length cl] 140)=wA at Hlook Hal Hbx ⊢
 generalize hbxn:w.heap.size=bx at Hbx ⊢
 clear hbxn
 refine Hlook.out.mono ?_
 rintro _ w1 ⟨rfl,h1,s1⟩
 have hb1:=Hbx.out.step s1
 have hs1:=Hal.out.2.1.trans s1
 clear Hlook
 have k0:=hb1.c0
 have hgl1:=HH.out.glob.below (WStp.below HH.out.wr hs1)
 have hrank:=rank_any (w:=w1) e.op hgl1
 have Hrank:=Lib.hid hrank;have Hb1:=Lib.hid hb1;have H1:=Lib.hid h1;have S1:=Lib.hid hs1;have Hgl1:=Lib.hid hgl1
 clear hrank hb1 h1 hs1 hgl1
 go_wp2_with fail
 refine Hrank.out.mono ?_
 rintro _ w2 ⟨rfl,rfl⟩
 clear Hrank
 have k1:=Hb1.out.c1
 have k2:=Hb1.out.c2
 have k3:=Hb1.out.c3
 have k4:=Hb1.out.c4
 go_wp2_with fail
 refine (bare_any w1 e ap al cp cl false true false (some 0)).mono ?_
 rintro _ w2 ⟨rfl,hb2⟩
 obtain ⟨h2,s2⟩:=H1.out.grow hb2
 have hb2:=Hb1.out.step s2
 have hs2:=S1.out.trans s2
 clear k0 k1 k2 k3 k4
 have k0:=hb2.c0
 have k1:=hb2.c1
 have k2:=hb2.c2
 have k3:=hb2.c3
 have k4:=hb2.c4
 have H2:=Lib.hid h2;have B2:=Lib.hid hb2;have S2:=Lib.hid hs2
 clear h2 hb2 hs2 s2
 rcases hbr:bareL e false true false (some 0) with _ | _
 · skip
   have hmust:=must_any H2.out false
   have Hmust:=Lib.hid hmust
   clear hmust
   go_wp2_with fail
   refine Hmust.out.mono ?_
   rintro _ w3 ⟨rfl,h3,s3⟩
   have hb3:=B2.out.step s3
   have hs3:=S2.out.trans s3
   clear k0 k1 k2 k3 k4 Hmust
   have k0:=hb3.c0
   have k1:=hb3.c1
   have k2:=hb3.c2
   have k3:=hb3.c3
   have k4:=hb3.c4
   have H3:=Lib.hid h3;have B3:=Lib.hid hb3;have S3:=Lib.hid hs3
   clear h3 hb3 hs3 s3
   have hq:=quote_any (toBA e.s) w3 (by rw [toBA_len];have:=HH.out.wt;have:=Ex.w_eq e;omega)
   rw [toBA_list] at hq
   have Hq:=Lib.hid hq
   clear hq
   go_wp2_with fail
   refine Hq.out.mono ?_
   rintro _ w4 ⟨rfl,hb4⟩
   obtain ⟨h4,s4⟩:=H3.out.grow hb4
   go_wp2_with fail
   refine bodyPost_ret (results_tmp rfl _ _ _) rfl ?_
   exact ⟨_,_,rfl,by rw [toBA_len];have:=quotedL_len e.s;have:=Ex.bulk_eq e;omega,((Nx.look st 0 0).trans (Nx.must st.look false 0 0) (Nat.le_refl _) (Nat.le_refl _)).mono (by unfold termK;have:=Ex.nodes_l e;omega) (Nat.le_refl _),h4,S3.out.trans s4,TW.str' KOK.out KK.out KO.out hbr (by rw [toBA_len];rfl)⟩
 · skip
   have hmust:=must_any H2.out true
   have Hmust:=Lib.hid hmust
   clear hmust
   go_wp2_with fail
   refine Hmust.out.mono ?_
   rintro _ w3 ⟨rfl,h3,s3⟩
   have hb3:=B2.out.step s3
   have hs3:=S2.out.trans s3
   clear k0 k1 k2 k3 k4 Hmust
   have k0:=hb3.c0
   have k1:=hb3.c1
   have k2:=hb3.c2
   have k3:=hb3.c3
   have k4:=hb3.c4
   have H3:=Lib.hid h3;have B3:=Lib.hid hb3;have S3:=Lib.hid hs3
   clear h3 hb3 hs3 s3
   have hq:=quote_any (toBA e.s) w3 (by rw [toBA_len];have:=HH.out.wt;have:=Ex.w_eq e;omega)
   rw [toBA_list] at hq
   have Hq:=Lib.hid hq
   clear hq
   go_wp2_with fail
   refine Hq.out.mono ?_
   rintro _ w4 ⟨rfl,hb4⟩
   obtain ⟨h4,s4⟩:=H3.out.grow hb4
   go_wp2_with fail
   refine bodyPost_ret (results_tmp rfl _ _ _) rfl ?_
   exact ⟨_,_,rfl,by rw [toBA_len];have:=quotedL_len e.s;have:=Ex.bulk_eq e;omega,((Nx.look st 0 0).trans (Nx.must st.look true 0 0) (Nat.le_refl _) (Nat.le_refl _)).mono (by unfold termK;have:=Ex.nodes_l e;omega) (Nat.le_refl _),h4,S3.out.trans s4,TW.str' KOK.out KK.out KO.out hbr (by rw [toBA_len];rfl)⟩
set_option maxRecDepth 100000 in
set_option maxHeartbeats 20000000 in
theorem term_name {e:Ex} {least deep:Nat} {w:World} {x:Nat} {st:WS} {p v:Value} {l:List UInt8} {vp vl:Value} (H:TermIn e least deep w x st p v l vp vl) (hok:st.look.ok=true) (hk:¬ rankL e.op < least) (hop:e.op=oName):
 Calls Tryz.prog 66 #[.pointer (some ⟨x,0,none⟩),.agg #[.string (toBA e.op),.int .i64 e.n,.string (toBA e.s),vp,vl],.int .i64 (least:Int),.int .i64 (deep:Int)] w (TextPost x w st p v l (64 * e.bulk - 8) (termK e least) (TW e least deep st)):=by
 have t1:decide (rankL e.op < least)=false:=by rw [decide_eq_false_iff_not];exact hk
 have u1:=op_is hop [105,110,116] (b:=false) rfl
 have u2:=op_is hop [115,116,114] (b:=false) rfl
 have u3:=op_is hop [110,97,109,101] (b:=true) rfl
 have KOK:=Lib.hid hok;have KK:=Lib.hid hk;have KO:=Lib.hid hop
 clear hop hk
 have hn0:st.n≤50000000:=by have:=H.n;omega
 obtain ⟨ap,cp,rfl,hpcap,hpr⟩:=H.ps
 obtain ⟨al,cl,rfl,hlcap,hlr⟩:=H.ls
 have hal:=H.wr.alloc (.cells #[.string (toBA e.op),.int .i64 e.n,.string (toBA e.s),.slice ap e.p.length cp,.slice al e.l.length cl] 140)
 have hbx:BoxE (w.alloc (.cells #[.string (toBA e.op),.int .i64 e.n,.string (toBA e.s),.slice ap e.p.length cp,.slice al e.l.length cl] 140)) x w.heap.size e ap cp al cl:=⟨heap_alloc_new w _,hal.2.2⟩
 have hlook:=look_any hal.1 (show st.n≤100000000 by omega)
 have Hal:=Lib.hid hal;have Hbx:=Lib.hid hbx;have Hl:=Lib.hid hlr;have Hp:=Lib.hid hpr;have HH:=Lib.hid H
 have hbulk:=H.bulk
 have hleast:=H.leastB
 have hdeep:=H.deepB
 rw [hok] at hlook
 have Hlook:=Lib.hid hlook
 clear hlook hal hbx hlr hpr H hok
 go_enter Tryz.func66,Tryz.ntmps66
 go_wp2_with fail
 generalize w.alloc (.cells #[.string (toBA e.op),.int .i64 e.n,.string (toBA e.s),.slice ap e.p.length cp,.slice al e.l.length cl] 140)=wA at Hlook Hal Hbx ⊢
 generalize hbxn:w.heap.size=bx at Hbx ⊢
 clear hbxn
 refine Hlook.out.mono ?_
 rintro _ w1 ⟨rfl,h1,s1⟩
 have hb1:=Hbx.out.step s1
 have hs1:=Hal.out.2.1.trans s1
 clear Hlook
 have k0:=hb1.c0
 have hgl1:=HH.out.glob.below (WStp.below HH.out.wr hs1)
 have hrank:=rank_any (w:=w1) e.op hgl1
 have Hrank:=Lib.hid hrank;have Hb1:=Lib.hid hb1;have H1:=Lib.hid h1;have S1:=Lib.hid hs1;have Hgl1:=Lib.hid hgl1
 clear hrank hb1 h1 hs1 hgl1
 go_wp2_with fail
 refine Hrank.out.mono ?_
 rintro _ w2 ⟨rfl,rfl⟩
 clear Hrank
 have k1:=Hb1.out.c1
 have k2:=Hb1.out.c2
 have k3:=Hb1.out.c3
 have k4:=Hb1.out.c4
 go_wp2_with fail
 refine (bare_any w1 e ap al cp cl false true false (some 0)).mono ?_
 rintro _ w2 ⟨rfl,hb2⟩
 obtain ⟨h2,s2⟩:=H1.out.grow hb2
 have hb2:=Hb1.out.step s2
 have hs2:=S1.out.trans s2
 clear k0 k1 k2 k3 k4
 have k0:=hb2.c0
 have k1:=hb2.c1
 have k2:=hb2.c2
 have k3:=hb2.c3
 have k4:=hb2.c4
 have H2:=Lib.hid h2;have B2:=Lib.hid hb2;have S2:=Lib.hid hs2
 clear h2 hb2 hs2 s2
 rcases hbr:bareL e false true false (some 0) with _ | _
 · skip
   have hmust:=must_any H2.out false
   have Hmust:=Lib.hid hmust
   clear hmust
   go_wp2_with fail
   refine Hmust.out.mono ?_
   rintro _ w3 ⟨rfl,h3,s3⟩
   have hb3:=B2.out.step s3
   have hs3:=S2.out.trans s3
   clear k0 k1 k2 k3 k4 Hmust
   have k0:=hb3.c0
   have k1:=hb3.c1
   have k2:=hb3.c2
   have k3:=hb3.c3
   have k4:=hb3.c4
   have H3:=Lib.hid h3;have B3:=Lib.hid hb3;have S3:=Lib.hid hs3
   clear h3 hb3 hs3 s3
   have hq:=name_any H3.out e.s (by have:=Ex.bulk_eq e;omega) (HH.out.glob.below (WStp.below HH.out.wr S3.out)).toGlobE
   have Hq:=Lib.hid hq
   clear hq
   go_wp2_with fail
   refine Hq.out.mono ?_
   rintro _ w4 ⟨rfl,h4,s4⟩
   go_wp2_with fail
   refine bodyPost_ret (results_tmp rfl _ _ _) rfl ?_
   exact ⟨_,_,rfl,by rw [toBA_len];have:=Ex.bulk_eq e;omega,(((Nx.look st 0 0).trans (Nx.must st.look false 0 0) (Nat.le_refl _) (Nat.le_refl _)).trans (Nx.name _ _ 0 0) (Nat.le_refl _) (Nat.le_refl _)).mono (by unfold termK;have:=Ex.nodes_l e;omega) (Nat.le_refl _),h4,S3.out.trans s4,TW.name' KOK.out KK.out KO.out hbr (by rw [toBA_len])⟩
 · skip
   have hmust:=must_any H2.out true
   have Hmust:=Lib.hid hmust
   clear hmust
   go_wp2_with fail
   refine Hmust.out.mono ?_
   rintro _ w3 ⟨rfl,h3,s3⟩
   have hb3:=B2.out.step s3
   have hs3:=S2.out.trans s3
   clear k0 k1 k2 k3 k4 Hmust
   have k0:=hb3.c0
   have k1:=hb3.c1
   have k2:=hb3.c2
   have k3:=hb3.c3
   have k4:=hb3.c4
   have H3:=Lib.hid h3;have B3:=Lib.hid hb3;have S3:=Lib.hid hs3
   clear h3 hb3 hs3 s3
   have hq:=name_any H3.out e.s (by have:=Ex.bulk_eq e;omega) (HH.out.glob.below (WStp.below HH.out.wr S3.out)).toGlobE
   have Hq:=Lib.hid hq
   clear hq
   go_wp2_with fail
   refine Hq.out.mono ?_
   rintro _ w4 ⟨rfl,h4,s4⟩
   go_wp2_with fail
   refine bodyPost_ret (results_tmp rfl _ _ _) rfl ?_
   exact ⟨_,_,rfl,by rw [toBA_len];have:=Ex.bulk_eq e;omega,(((Nx.look st 0 0).trans (Nx.must st.look true 0 0) (Nat.le_refl _) (Nat.le_refl _)).trans (Nx.name _ _ 0 0) (Nat.le_refl _) (Nat.le_refl _)).mono (by unfold termK;have:=Ex.nodes_l e;omega) (Nat.le_refl _),h4,S3.out.trans s4,TW.name' KOK.out KK.out KO.out hbr (by rw [toBA_len])⟩
set_option maxRecDepth 100000 in
set_option maxHeartbeats 20000000 in
theorem term_none {e:Ex} {least deep:Nat} {w:World} {x:Nat} {st:WS} {p v:Value} {l:List UInt8} {vp vl:Value} (H:TermIn e least deep w x st p v l vp vl) (hok:st.look.ok=true) (hk:¬ rankL e.op < least) (hop:e.op=oNone):
 Calls Tryz.prog 66 #[.pointer (some ⟨x,0,none⟩),.agg #[.string (toBA e.op),.int .i64 e.n,.string (toBA e.s),vp,vl],.int .i64 (least:Int),.int .i64 (deep:Int)] w (TextPost x w st p v l (64 * e.bulk - 8) (termK e least) (TW e least deep st)):=by
 have t1:decide (rankL e.op < least)=false:=by rw [decide_eq_false_iff_not];exact hk
 have u1:=op_is hop [105,110,116] (b:=false) rfl
 have u2:=op_is hop [115,116,114] (b:=false) rfl
 have u3:=op_is hop [110,97,109,101] (b:=false) rfl
 have u4:=op_is hop [78,111,110,101] (b:=true) rfl
 have KOK:=Lib.hid hok;have KK:=Lib.hid hk;have KO:=Lib.hid hop
 clear hop hk
 have hn0:st.n≤50000000:=by have:=H.n;omega
 obtain ⟨ap,cp,rfl,hpcap,hpr⟩:=H.ps
 obtain ⟨al,cl,rfl,hlcap,hlr⟩:=H.ls
 have hal:=H.wr.alloc (.cells #[.string (toBA e.op),.int .i64 e.n,.string (toBA e.s),.slice ap e.p.length cp,.slice al e.l.length cl] 140)
 have hbx:BoxE (w.alloc (.cells #[.string (toBA e.op),.int .i64 e.n,.string (toBA e.s),.slice ap e.p.length cp,.slice al e.l.length cl] 140)) x w.heap.size e ap cp al cl:=⟨heap_alloc_new w _,hal.2.2⟩
 have hlook:=look_any hal.1 (show st.n≤100000000 by omega)
 have Hal:=Lib.hid hal;have Hbx:=Lib.hid hbx;have Hl:=Lib.hid hlr;have Hp:=Lib.hid hpr;have HH:=Lib.hid H
 have hbulk:=H.bulk
 have hleast:=H.leastB
 have hdeep:=H.deepB
 rw [hok] at hlook
 have Hlook:=Lib.hid hlook
 clear hlook hal hbx hlr hpr H hok
 go_enter Tryz.func66,Tryz.ntmps66
 go_wp2_with fail
 generalize w.alloc (.cells #[.string (toBA e.op),.int .i64 e.n,.string (toBA e.s),.slice ap e.p.length cp,.slice al e.l.length cl] 140)=wA at Hlook Hal Hbx ⊢
 generalize hbxn:w.heap.size=bx at Hbx ⊢
 clear hbxn
 refine Hlook.out.mono ?_
 rintro _ w1 ⟨rfl,h1,s1⟩
 have hb1:=Hbx.out.step s1
 have hs1:=Hal.out.2.1.trans s1
 clear Hlook
 have k0:=hb1.c0
 have hgl1:=HH.out.glob.below (WStp.below HH.out.wr hs1)
 have hrank:=rank_any (w:=w1) e.op hgl1
 have Hrank:=Lib.hid hrank;have Hb1:=Lib.hid hb1;have H1:=Lib.hid h1;have S1:=Lib.hid hs1;have Hgl1:=Lib.hid hgl1
 clear hrank hb1 h1 hs1 hgl1
 go_wp2_with fail
 refine Hrank.out.mono ?_
 rintro _ w2 ⟨rfl,rfl⟩
 clear Hrank
 have k1:=Hb1.out.c1
 have k2:=Hb1.out.c2
 have k3:=Hb1.out.c3
 have k4:=Hb1.out.c4
 go_wp2_with fail
 refine (bare_any w1 e ap al cp cl false false false (some 0)).mono ?_
 rintro _ w2 ⟨rfl,hb2⟩
 obtain ⟨h2,s2⟩:=H1.out.grow hb2
 have hb2:=Hb1.out.step s2
 have hs2:=S1.out.trans s2
 clear k0 k1 k2 k3 k4
 have k0:=hb2.c0
 have k1:=hb2.c1
 have k2:=hb2.c2
 have k3:=hb2.c3
 have k4:=hb2.c4
 have H2:=Lib.hid h2;have B2:=Lib.hid hb2;have S2:=Lib.hid hs2
 clear h2 hb2 hs2 s2
 rcases hbr:bareL e false false false (some 0) with _ | _
 · skip
   have hmust:=must_any H2.out false
   have Hmust:=Lib.hid hmust
   clear hmust
   go_wp2_with fail
   refine Hmust.out.mono ?_
   rintro _ w3 ⟨rfl,h3,s3⟩
   have hb3:=B2.out.step s3
   have hs3:=S2.out.trans s3
   clear k0 k1 k2 k3 k4 Hmust
   have k0:=hb3.c0
   have k1:=hb3.c1
   have k2:=hb3.c2
   have k3:=hb3.c3
   have k4:=hb3.c4
   have H3:=Lib.hid h3;have B3:=Lib.hid hb3;have S3:=Lib.hid hs3
   clear h3 hb3 hs3 s3
   go_wp2_with fail
   refine bodyPost_ret (results_tmp rfl _ _ _) rfl ?_
   exact ⟨_,_,rfl,by rw [toBA_len];have:=Ex.bulk_eq e;omega,((Nx.look st 0 0).trans (Nx.must st.look false 0 0) (Nat.le_refl _) (Nat.le_refl _)).mono (by unfold termK;have:=Ex.nodes_l e;omega) (Nat.le_refl _),H3.out,S3.out,TW.word' KOK.out KK.out (.inl KO.out) hbr (by rw [toBA_len])⟩
 · skip
   have hmust:=must_any H2.out true
   have Hmust:=Lib.hid hmust
   clear hmust
   go_wp2_with fail
   refine Hmust.out.mono ?_
   rintro _ w3 ⟨rfl,h3,s3⟩
   have hb3:=B2.out.step s3
   have hs3:=S2.out.trans s3
   clear k0 k1 k2 k3 k4 Hmust
   have k0:=hb3.c0
   have k1:=hb3.c1
   have k2:=hb3.c2
   have k3:=hb3.c3
   have k4:=hb3.c4
   have H3:=Lib.hid h3;have B3:=Lib.hid hb3;have S3:=Lib.hid hs3
   clear h3 hb3 hs3 s3
   go_wp2_with fail
   refine bodyPost_ret (results_tmp rfl _ _ _) rfl ?_
   exact ⟨_,_,rfl,by rw [toBA_len];have:=Ex.bulk_eq e;omega,((Nx.look st 0 0).trans (Nx.must st.look true 0 0) (Nat.le_refl _) (Nat.le_refl _)).mono (by unfold termK;have:=Ex.nodes_l e;omega) (Nat.le_refl _),H3.out,S3.out,TW.word' KOK.out KK.out (.inl KO.out) hbr (by rw [toBA_len])⟩
set_option maxRecDepth 100000 in
set_option maxHeartbeats 20000000 in
theorem term_true {e:Ex} {least deep:Nat} {w:World} {x:Nat} {st:WS} {p v:Value} {l:List UInt8} {vp vl:Value} (H:TermIn e least deep w x st p v l vp vl) (hok:st.look.ok=true) (hk:¬ rankL e.op < least) (hop:e.op=oTrue):
 Calls Tryz.prog 66 #[.pointer (some ⟨x,0,none⟩),.agg #[.string (toBA e.op),.int .i64 e.n,.string (toBA e.s),vp,vl],.int .i64 (least:Int),.int .i64 (deep:Int)] w (TextPost x w st p v l (64 * e.bulk - 8) (termK e least) (TW e least deep st)):=by
 have t1:decide (rankL e.op < least)=false:=by rw [decide_eq_false_iff_not];exact hk
 have u1:=op_is hop [105,110,116] (b:=false) rfl
 have u2:=op_is hop [115,116,114] (b:=false) rfl
 have u3:=op_is hop [110,97,109,101] (b:=false) rfl
 have u4:=op_is hop [78,111,110,101] (b:=false) rfl
 have u5:=op_is hop [84,114,117,101] (b:=true) rfl
 have KOK:=Lib.hid hok;have KK:=Lib.hid hk;have KO:=Lib.hid hop
 clear hop hk
 have hn0:st.n≤50000000:=by have:=H.n;omega
 obtain ⟨ap,cp,rfl,hpcap,hpr⟩:=H.ps
 obtain ⟨al,cl,rfl,hlcap,hlr⟩:=H.ls
 have hal:=H.wr.alloc (.cells #[.string (toBA e.op),.int .i64 e.n,.string (toBA e.s),.slice ap e.p.length cp,.slice al e.l.length cl] 140)
 have hbx:BoxE (w.alloc (.cells #[.string (toBA e.op),.int .i64 e.n,.string (toBA e.s),.slice ap e.p.length cp,.slice al e.l.length cl] 140)) x w.heap.size e ap cp al cl:=⟨heap_alloc_new w _,hal.2.2⟩
 have hlook:=look_any hal.1 (show st.n≤100000000 by omega)
 have Hal:=Lib.hid hal;have Hbx:=Lib.hid hbx;have Hl:=Lib.hid hlr;have Hp:=Lib.hid hpr;have HH:=Lib.hid H
 have hbulk:=H.bulk
 have hleast:=H.leastB
 have hdeep:=H.deepB
 rw [hok] at hlook
 have Hlook:=Lib.hid hlook
 clear hlook hal hbx hlr hpr H hok
 go_enter Tryz.func66,Tryz.ntmps66
 go_wp2_with fail
 generalize w.alloc (.cells #[.string (toBA e.op),.int .i64 e.n,.string (toBA e.s),.slice ap e.p.length cp,.slice al e.l.length cl] 140)=wA at Hlook Hal Hbx ⊢
 generalize hbxn:w.heap.size=bx at Hbx ⊢
 clear hbxn
 refine Hlook.out.mono ?_
 rintro _ w1 ⟨rfl,h1,s1⟩
 have hb1:=Hbx.out.step s1
 have hs1:=Hal.out.2.1.trans s1
 clear Hlook
 have k0:=hb1.c0
 have hgl1:=HH.out.glob.below (WStp.below HH.out.wr hs1)
 have hrank:=rank_any (w:=w1) e.op hgl1
 have Hrank:=Lib.hid hrank;have Hb1:=Lib.hid hb1;have H1:=Lib.hid h1;have S1:=Lib.hid hs1;have Hgl1:=Lib.hid hgl1
 clear hrank hb1 h1 hs1 hgl1
 go_wp2_with fail
 refine Hrank.out.mono ?_
 rintro _ w2 ⟨rfl,rfl⟩
 clear Hrank
 have k1:=Hb1.out.c1
 have k2:=Hb1.out.c2
 have k3:=Hb1.out.c3
 have k4:=Hb1.out.c4
 go_wp2_with fail
 refine (bare_any w1 e ap al cp cl false false false (some 0)).mono ?_
 rintro _ w2 ⟨rfl,hb2⟩
 obtain ⟨h2,s2⟩:=H1.out.grow hb2
 have hb2:=Hb1.out.step s2
 have hs2:=S1.out.trans s2
 clear k0 k1 k2 k3 k4
 have k0:=hb2.c0
 have k1:=hb2.c1
 have k2:=hb2.c2
 have k3:=hb2.c3
 have k4:=hb2.c4
 have H2:=Lib.hid h2;have B2:=Lib.hid hb2;have S2:=Lib.hid hs2
 clear h2 hb2 hs2 s2
 rcases hbr:bareL e false false false (some 0) with _ | _
 · skip
   have hmust:=must_any H2.out false
   have Hmust:=Lib.hid hmust
   clear hmust
   go_wp2_with fail
   refine Hmust.out.mono ?_
   rintro _ w3 ⟨rfl,h3,s3⟩
   have hb3:=B2.out.step s3
   have hs3:=S2.out.trans s3
   clear k0 k1 k2 k3 k4 Hmust
   have k0:=hb3.c0
   have k1:=hb3.c1
   have k2:=hb3.c2
   have k3:=hb3.c3
   have k4:=hb3.c4
   have H3:=Lib.hid h3;have B3:=Lib.hid hb3;have S3:=Lib.hid hs3
   clear h3 hb3 hs3 s3
   go_wp2_with fail
   refine bodyPost_ret (results_tmp rfl _ _ _) rfl ?_
   exact ⟨_,_,rfl,by rw [toBA_len];have:=Ex.bulk_eq e;omega,((Nx.look st 0 0).trans (Nx.must st.look false 0 0) (Nat.le_refl _) (Nat.le_refl _)).mono (by unfold termK;have:=Ex.nodes_l e;omega) (Nat.le_refl _),H3.out,S3.out,TW.word' KOK.out KK.out (.inr (.inl KO.out)) hbr (by rw [toBA_len])⟩
 · skip
   have hmust:=must_any H2.out true
   have Hmust:=Lib.hid hmust
   clear hmust
   go_wp2_with fail
   refine Hmust.out.mono ?_
   rintro _ w3 ⟨rfl,h3,s3⟩
   have hb3:=B2.out.step s3
   have hs3:=S2.out.trans s3
   clear k0 k1 k2 k3 k4 Hmust
   have k0:=hb3.c0
   have k1:=hb3.c1
   have k2:=hb3.c2
   have k3:=hb3.c3
   have k4:=hb3.c4
   have H3:=Lib.hid h3;have B3:=Lib.hid hb3;have S3:=Lib.hid hs3
   clear h3 hb3 hs3 s3
   go_wp2_with fail
   refine bodyPost_ret (results_tmp rfl _ _ _) rfl ?_
   exact ⟨_,_,rfl,by rw [toBA_len];have:=Ex.bulk_eq e;omega,((Nx.look st 0 0).trans (Nx.must st.look true 0 0) (Nat.le_refl _) (Nat.le_refl _)).mono (by unfold termK;have:=Ex.nodes_l e;omega) (Nat.le_refl _),H3.out,S3.out,TW.word' KOK.out KK.out (.inr (.inl KO.out)) hbr (by rw [toBA_len])⟩
set_option maxRecDepth 100000 in
set_option maxHeartbeats 20000000 in
theorem term_false {e:Ex} {least deep:Nat} {w:World} {x:Nat} {st:WS} {p v:Value} {l:List UInt8} {vp vl:Value} (H:TermIn e least deep w x st p v l vp vl) (hok:st.look.ok=true) (hk:¬ rankL e.op < least) (hop:e.op=oFalse):
 Calls Tryz.prog 66 #[.pointer (some ⟨x,0,none⟩),.agg #[.string (toBA e.op),.int .i64 e.n,.string (toBA e.s),vp,vl],.int .i64 (least:Int),.int .i64 (deep:Int)] w (TextPost x w st p v l (64 * e.bulk - 8) (termK e least) (TW e least deep st)):=by
 have t1:decide (rankL e.op < least)=false:=by rw [decide_eq_false_iff_not];exact hk
 have u1:=op_is hop [105,110,116] (b:=false) rfl
 have u2:=op_is hop [115,116,114] (b:=false) rfl
 have u3:=op_is hop [110,97,109,101] (b:=false) rfl
 have u4:=op_is hop [78,111,110,101] (b:=false) rfl
 have u5:=op_is hop [84,114,117,101] (b:=false) rfl
 have u6:=op_is hop [70,97,108,115,101] (b:=true) rfl
 have KOK:=Lib.hid hok;have KK:=Lib.hid hk;have KO:=Lib.hid hop
 clear hop hk
 have hn0:st.n≤50000000:=by have:=H.n;omega
 obtain ⟨ap,cp,rfl,hpcap,hpr⟩:=H.ps
 obtain ⟨al,cl,rfl,hlcap,hlr⟩:=H.ls
 have hal:=H.wr.alloc (.cells #[.string (toBA e.op),.int .i64 e.n,.string (toBA e.s),.slice ap e.p.length cp,.slice al e.l.length cl] 140)
 have hbx:BoxE (w.alloc (.cells #[.string (toBA e.op),.int .i64 e.n,.string (toBA e.s),.slice ap e.p.length cp,.slice al e.l.length cl] 140)) x w.heap.size e ap cp al cl:=⟨heap_alloc_new w _,hal.2.2⟩
 have hlook:=look_any hal.1 (show st.n≤100000000 by omega)
 have Hal:=Lib.hid hal;have Hbx:=Lib.hid hbx;have Hl:=Lib.hid hlr;have Hp:=Lib.hid hpr;have HH:=Lib.hid H
 have hbulk:=H.bulk
 have hleast:=H.leastB
 have hdeep:=H.deepB
 rw [hok] at hlook
 have Hlook:=Lib.hid hlook
 clear hlook hal hbx hlr hpr H hok
 go_enter Tryz.func66,Tryz.ntmps66
 go_wp2_with fail
 generalize w.alloc (.cells #[.string (toBA e.op),.int .i64 e.n,.string (toBA e.s),.slice ap e.p.length cp,.slice al e.l.length cl] 140)=wA at Hlook Hal Hbx ⊢
 generalize hbxn:w.heap.size=bx at Hbx ⊢
 clear hbxn
 refine Hlook.out.mono ?_
 rintro _ w1 ⟨rfl,h1,s1⟩
 have hb1:=Hbx.out.step s1
 have hs1:=Hal.out.2.1.trans s1
 clear Hlook
 have k0:=hb1.c0
 have hgl1:=HH.out.glob.below (WStp.below HH.out.wr hs1)
 have hrank:=rank_any (w:=w1) e.op hgl1
 have Hrank:=Lib.hid hrank;have Hb1:=Lib.hid hb1;have H1:=Lib.hid h1;have S1:=Lib.hid hs1;have Hgl1:=Lib.hid hgl1
 clear hrank hb1 h1 hs1 hgl1
 go_wp2_with fail
 refine Hrank.out.mono ?_
 rintro _ w2 ⟨rfl,rfl⟩
 clear Hrank
 have k1:=Hb1.out.c1
 have k2:=Hb1.out.c2
 have k3:=Hb1.out.c3
 have k4:=Hb1.out.c4
 go_wp2_with fail
 refine (bare_any w1 e ap al cp cl false false false (some 0)).mono ?_
 rintro _ w2 ⟨rfl,hb2⟩
 obtain ⟨h2,s2⟩:=H1.out.grow hb2
 have hb2:=Hb1.out.step s2
 have hs2:=S1.out.trans s2
 clear k0 k1 k2 k3 k4
 have k0:=hb2.c0
 have k1:=hb2.c1
 have k2:=hb2.c2
 have k3:=hb2.c3
 have k4:=hb2.c4
 have H2:=Lib.hid h2;have B2:=Lib.hid hb2;have S2:=Lib.hid hs2
 clear h2 hb2 hs2 s2
 rcases hbr:bareL e false false false (some 0) with _ | _
 · skip
   have hmust:=must_any H2.out false
   have Hmust:=Lib.hid hmust
   clear hmust
   go_wp2_with fail
   refine Hmust.out.mono ?_
   rintro _ w3 ⟨rfl,h3,s3⟩
   have hb3:=B2.out.step s3
   have hs3:=S2.out.trans s3
   clear k0 k1 k2 k3 k4 Hmust
   have k0:=hb3.c0
   have k1:=hb3.c1
   have k2:=hb3.c2
   have k3:=hb3.c3
   have k4:=hb3.c4
   have H3:=Lib.hid h3;have B3:=Lib.hid hb3;have S3:=Lib.hid hs3
   clear h3 hb3 hs3 s3
   go_wp2_with fail
   refine bodyPost_ret (results_tmp rfl _ _ _) rfl ?_
   exact ⟨_,_,rfl,by rw [toBA_len];have:=Ex.bulk_eq e;omega,((Nx.look st 0 0).trans (Nx.must st.look false 0 0) (Nat.le_refl _) (Nat.le_refl _)).mono (by unfold termK;have:=Ex.nodes_l e;omega) (Nat.le_refl _),H3.out,S3.out,TW.word' KOK.out KK.out (.inr (.inr KO.out)) hbr (by rw [toBA_len])⟩
 · skip
   have hmust:=must_any H2.out true
   have Hmust:=Lib.hid hmust
   clear hmust
   go_wp2_with fail
   refine Hmust.out.mono ?_
   rintro _ w3 ⟨rfl,h3,s3⟩
   have hb3:=B2.out.step s3
   have hs3:=S2.out.trans s3
   clear k0 k1 k2 k3 k4 Hmust
   have k0:=hb3.c0
   have k1:=hb3.c1
   have k2:=hb3.c2
   have k3:=hb3.c3
   have k4:=hb3.c4
   have H3:=Lib.hid h3;have B3:=Lib.hid hb3;have S3:=Lib.hid hs3
   clear h3 hb3 hs3 s3
   go_wp2_with fail
   refine bodyPost_ret (results_tmp rfl _ _ _) rfl ?_
   exact ⟨_,_,rfl,by rw [toBA_len];have:=Ex.bulk_eq e;omega,((Nx.look st 0 0).trans (Nx.must st.look true 0 0) (Nat.le_refl _) (Nat.le_refl _)).mono (by unfold termK;have:=Ex.nodes_l e;omega) (Nat.le_refl _),H3.out,S3.out,TW.word' KOK.out KK.out (.inr (.inr KO.out)) hbr (by rw [toBA_len])⟩
end Go.Proofs.YtdoaeapahgmfoaaGreatDoor

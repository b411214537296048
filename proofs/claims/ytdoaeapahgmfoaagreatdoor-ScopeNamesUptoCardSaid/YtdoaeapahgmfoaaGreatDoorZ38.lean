/- The writer's ifs, where blocks are given. The writer's ifs. The writer's statement: what it needs to know. -/
import Derived.Test.YtdoaeapahgmfoaaGreatDoorZ26
namespace Go.Proofs.YtdoaeapahgmfoaaGreatDoor
open Go.RowKit
section
variable {s:Stm} {deep:Nat} {w:World} {x:Nat} {st:WS} {p v:Value} {l:List UInt8} {vp vl vb ve:Value}
theorem schild_of (H:StmIn s deep w x st p v l vp vl vb ve) {b o:Nat} (hb:Lo x b) (hrow:ExRow w (Lo x) s.l b o) (i:Nat) (hi:i < s.l.length) (l':Nat) (lv:Int) (hlv:lv=(l':Int)) (d':Nat) (dv:Int) (hdv:dv=(d':Int)) (hl':l'≤100) (hd:d'≤1):
 ∃ (c:Ex) (ap1:Option Addr) (cp1:Nat) (al1:Option Addr) (cl1:Nat),c=s.l[i]∧
   (∀ W,Below x w W→W.cell? ⟨b,o+i * 5,none⟩=some (.string (toBA c.op))∧W.cell? ⟨b,o+i * 5+1,none⟩=some (.int .i64 c.n)∧W.cell? ⟨b,o+i * 5+2,none⟩=some (.string (toBA c.s))∧
     W.cell? ⟨b,o+i * 5+3,none⟩=some (.slice ap1 c.p.length cp1)∧W.cell? ⟨b,o+i * 5+4,none⟩=some (.slice al1 c.l.length cl1))∧
   ∀ (W:World) (st4:WS) (p4 v4:Value) (l4:List UInt8),WrC W x st4 p4 v4 l4→Below x w W→st4.n+termK c l'≤49000000→
     Calls Tryz.prog 66 #[.pointer (some ⟨x,0,none⟩),.agg #[.string (toBA c.op),.int .i64 c.n,.string (toBA c.s),.slice ap1 c.p.length cp1,.slice al1 c.l.length cl1],.int .i64 lv,.int .i64 dv] W (TextPost x W st4 p4 v4 l4 (64 * c.bulk - 4) (termK c l') (TW c l' d' st4)):=by
 subst hlv hdv
 obtain ⟨vp1,vl1,q0,q1,q2,q3,q4,hp1,hx1⟩:=(hrow.at_ _ _ _ i hi).open_
 obtain ⟨ap1,cp1,rfl,hpr⟩:=hp1
 obtain ⟨al1,cl1,rfl,hxc,hxr⟩:=hx1
 have hm:=exs_mem (List.getElem_mem hi)
 have hbe:=Stm.bulk_eq s
 have hwe:=Stm.w_eq s
 have hbk:=H.bulk
 have hwt:=H.wt
 have hk2:=termK_le s.l[i] l'
 have hnb:=Ex.nodes_bulk _ s.l[i] (Nat.le_refl _)
 refine ⟨s.l[i],ap1,cp1,al1,cl1,rfl,fun W hW=> ?_,fun W st4 p4 v4 l4 hw4 hW hn4=> ?_⟩
 · have hc:∀ o,W.cell? ⟨b,o,none⟩=w.cell? ⟨b,o,none⟩:=fun o=>hW.cell (p:=⟨b,o,none⟩) hb
   exact ⟨(hc _).trans q0,(hc _).trans q1,(hc _).trans q2,(hc _).trans q3,(hc _).trans q4⟩
 · exact wterm_any ⟨exsFit_mem ((Stm.fit_eq s).1 H.fit).1 (List.getElem_mem hi),by omega,by omega,hl',by omega,by omega,hw4,H.glob.below hW,StrsAt.below ⟨ap1,cp1,rfl,hpr⟩ hW,ExsAt.below ⟨al1,cl1,rfl,hxc,hxr⟩ hW⟩
theorem sbody_of {f:Nat} (hB:BlockC f) (H:StmIn s deep w x st p v l vp vl vb ve) (hf:s.nodes≤f+1) (dv:Int) (hdv:dv=(deep:Int)+1):
 ∀ (W:World) (st4:WS) (p4 v4:Value) (l4:List UInt8),WrC W x st4 p4 v4 l4→Below x w W→st4.n+8 * stmsNodes s.body≤40000000→st4.inn≤st.inn→st4.len+20000000 * stmsBulk s.body≤80000000000000→
   Calls Tryz.prog 70 #[.pointer (some ⟨x,0,none⟩),vb,.int .i64 dv] W (WrPost x W st4 (8 * stmsNodes s.body) (20000000 * stmsBulk s.body) fun st'=>(st'.ok=true→stmsNamed s.body)∧BW s.body (deep+1) st4 st'):=by
 intro W st4 p4 v4 l4 h4 hW hn hin hln
 have hbe:=Stm.bulk_eq s
 have hwe:=Stm.w_eq s
 have hne:=Stm.nodes_eq s
 have hbk:=H.bulk
 have hwt:=H.wt
 have hdb:=H.deepB
 have hii:=H.inn
 exact hB s.body dv (deep+1) W x st4 p4 v4 l4 vb (by omega) (by omega) ((Stm.fit_eq s).1 H.fit).2.1 (by omega) (by omega) (by omega) hn (by omega) hln h4 (H.glob.below hW) (H.bs.below hW)
theorem sels_of {f:Nat} (hB:BlockC f) (H:StmIn s deep w x st p v l vp vl vb ve) (hf:s.nodes≤f+1) (dv:Int) (hdv:dv=(deep:Int)+1):
 ∀ (W:World) (st4:WS) (p4 v4:Value) (l4:List UInt8),WrC W x st4 p4 v4 l4→Below x w W→st4.n+8 * stmsNodes s.els≤40000000→st4.inn≤st.inn→st4.len+20000000 * stmsBulk s.els≤80000000000000→
   Calls Tryz.prog 70 #[.pointer (some ⟨x,0,none⟩),ve,.int .i64 dv] W (WrPost x W st4 (8 * stmsNodes s.els) (20000000 * stmsBulk s.els) fun st'=>(st'.ok=true→stmsNamed s.els)∧BW s.els (deep+1) st4 st'):=by
 intro W st4 p4 v4 l4 h4 hW hn hin hln
 have hbe:=Stm.bulk_eq s
 have hwe:=Stm.w_eq s
 have hne:=Stm.nodes_eq s
 have hbk:=H.bulk
 have hwt:=H.wt
 have hdb:=H.deepB
 have hii:=H.inn
 exact hB s.els dv (deep+1) W x st4 p4 v4 l4 ve (by omega) (by omega) ((Stm.fit_eq s).1 H.fit).2.2 (by omega) (by omega) (by omega) hn (by omega) hln h4 (H.glob.below hW) (H.es.below hW)
theorem sone_of (H:StmIn s deep w x st p v l vp vl vb ve) (h1:s.els.length=1):
 ∃ (e:Stm) (b o ce:Nat) (ap al ab ae:Option Addr) (cp cl cb c5:Nat),s.els= [e]∧ve= .slice (some ⟨b,o,none⟩) 1 ce∧(e.bulk=stmsBulk s.els∧e.nodes=stmsNodes s.els)∧
   (∀ W,Below x w W→W.cell? ⟨b,o,none⟩=some (.string (toBA e.kind))∧W.cell? ⟨b,o+1,none⟩=some (.string (toBA e.name))∧W.cell? ⟨b,o+2,none⟩=some (.slice ap e.p.length cp)∧W.cell? ⟨b,o+3,none⟩=some (.slice al e.l.length cl)∧
     W.cell? ⟨b,o+4,none⟩=some (.slice ab e.body.length cb)∧W.cell? ⟨b,o+5,none⟩=some (.slice ae e.els.length c5))∧
   ∀ (W:World) (st4:WS) (p4 v4:Value) (l4:List UInt8),WrC W x st4 p4 v4 l4→Below x w W→st4.n+8 * e.nodes≤40000001→st4.inn≤st.inn→st4.len+20000000 * e.bulk≤80000000000000→
     StmIn e deep W x st4 p4 v4 l4 (.slice ap e.p.length cp) (.slice al e.l.length cl) (.slice ab e.body.length cb) (.slice ae e.els.length c5):=by
 have hbe:=Stm.bulk_eq s
 have hwe:=Stm.w_eq s
 have hne:=Stm.nodes_eq s
 have hbk:=H.bulk
 have hwt:=H.wt
 have hdb:=H.deepB
 have hii:=H.inn
 have hes:=H.es
 have hft:=((Stm.fit_eq s).1 H.fit).2.2
 obtain ⟨e,he⟩:∃ e,s.els= [e]:=by
  match s.els,h1 with
  | [e],_=>exact ⟨e,rfl⟩
 rw [he] at hes hft hbe hwe hne
 obtain ⟨a,ce,rfl,hr⟩:=hes
 obtain ⟨b,o,rfl,hb,hrow⟩:=hr (by simp)
 unfold StmRow at hrow
 unfold stmsFit at hft
 simp only [stmsBulk,stmsW,stmsNodes] at hbe hwe hne
 obtain ⟨vp',vl',vb',ve',q0,q1,q2,q3,q4,q5,hp,hx,hbd,hel⟩:=hrow.1.open_
 have Hp:=hp;have Hx:=hx;have Hb:=hbd;have He:=hel
 obtain ⟨ap,cp,rfl,_⟩:=hp
 obtain ⟨al,cl,rfl,_⟩:=hx
 obtain ⟨ab,cb,rfl,_⟩:=hbd
 obtain ⟨ae,c5,rfl,_⟩:=hel
 refine ⟨e,b,o,ce,ap,al,ab,ae,cp,cl,cb,c5,he,rfl,by rw [he];exact ⟨rfl,rfl⟩,fun W hW=> ?_,fun W st4 p4 v4 l4 h4 hW hn hin hln=>⟨hft.1,by omega,by omega,by omega,hn,by omega,hln,h4,H.glob.below hW,Hp.below hW,Hx.below hW,Hb.below hW,He.below hW⟩⟩
 have hc:∀ o,W.cell? ⟨b,o,none⟩=w.cell? ⟨b,o,none⟩:=fun o=>hW.cell (p:=⟨b,o,none⟩) hb
 exact ⟨(hc _).trans q0,(hc _).trans q1,(hc _).trans q2,(hc _).trans q3,(hc _).trans q4,(hc _).trans q5⟩
end
end Go.Proofs.YtdoaeapahgmfoaaGreatDoor
namespace Go.Proofs.YtdoaeapahgmfoaaGreatDoor
open Go.RowKit
theorem nx_line {st:WS} (m:Nat):Nx st { st with len:=st.len+m } 0 m:=⟨rfl,Nat.le_refl _,Nat.le_refl _,id⟩
theorem Nx.right (st:WS) (s:Stm) (k m:Nat):Nx st (st.right s) k m:=by
 unfold WS.right
 dsimp only
 split
 · exact ((Nx.must st (formOk s) 0 0).trans (Nx.name _ s.name 0 0) (Nat.le_refl _) (Nat.le_refl _)).mono (by omega) (by omega)
 · exact Nx.must _ _ _ _
theorem right_ok {st:WS} {s:Stm} (h:(st.right s).ok=true):formOk s=true∧(hasName s=true→nameOk s.name=true):=by
 unfold WS.right at h
 dsimp only at h
 split at h
 · rename_i hc
   have h1:=must_ok h
   exact ⟨(must_ok h1.1).2,fun _=>h1.2⟩
 · rename_i hc
   have h1:=must_ok h
   refine ⟨h1.2,fun hn=> ?_⟩
   rw [hn,h,Bool.and_true] at hc
   exact absurd rfl hc
theorem form_if {s:Stm} (hk:s.kind=sIf) (h:formOk s=true):s.l.length=1:=by
 unfold formOk at h
 have e:kindF s.kind=some ⟨false,false,1,true,true⟩:=by rw [hk];rfl
 rw [e] at h
 simp at h
 omega
theorem named_if {s:Stm} (hk:s.kind=sIf) (h1:stmsNamed s.body) (h2:stmsNamed s.els):s.named:=by
 rw [Stm.named_eq]
 refine ⟨fun h=> ?_,fun h=> ?_,h1,h2⟩
 · rw [hk] at h
   exact absurd h (by decide)
 · rw [hk] at h
   exact absurd h (by decide)
set_option maxRecDepth 100000 in
set_option maxHeartbeats 20000000 in
theorem ifs_of {f:Nat} (hB:BlockC f) (hI:IfsC f):IfsC (f+1):=by
 intro s word deep w x st p v l vp vl vb ve hf h1 hword H
 obtain ⟨ap,cp,rfl,hpcap,hpr⟩:=H.ps
 obtain ⟨al,cl,rfl,hlcap,hlr⟩:=H.ls
 obtain ⟨ab,cb,rfl,hbr⟩:=H.bs
 obtain ⟨ae,ce,rfl,her⟩:=H.es
 obtain ⟨ha,sa,sfa⟩:=H.wr.alloc (.cells #[.string (toBA s.kind),.string (toBA s.name),.slice ap s.p.length cp,.slice al s.l.length cl,.slice ab s.body.length cb,.slice ae s.els.length ce] 82)
 have hbx:BoxS (w.alloc (.cells #[.string (toBA s.kind),.string (toBA s.name),.slice ap s.p.length cp,.slice al s.l.length cl,.slice ab s.body.length cb,.slice ae s.els.length ce] 82)) x w.heap.size s ap cp al cl ab cb ae ce:=⟨heap_alloc_new w _,sfa⟩
 have hne:=Stm.nodes_eq s
 have hbe:=Stm.bulk_eq s
 have hbk:=H.bulk
 have hnn:=H.n
 have hii:=H.inn
 have hll:=H.len
 have hdd:=H.deepB
 have hbody:=sbody_of hB H hf ((deep:Int)+1) rfl
 have hels:=sels_of hB H hf ((deep:Int)+1) rfl
 obtain ⟨b,o,rfl,hbx0,hrow⟩:=hlr (by omega)
 obtain ⟨c,ap1,cp1,al1,cl1,hc,hcell,hcall⟩:=schild_of H hbx0 hrow 0 (by omega) 0 0 rfl 0 0 rfl (by omega) (by omega)
 have hb1:=one_bulk h1 (by omega)
 rw [← hc] at hb1
 have KL:=Lib.hid (list_one h1 hc)
 have hkc:termK c 0=3 * c.nodes:=by unfold termK;rw [if_pos rfl];omega
 have hone:=fun h=>sone_of H h
 have Ha:=Lib.hid ha;have Sa:=Lib.hid sa;have Hbx:=Lib.hid hbx;have HH:=Lib.hid H;have Hbody:=Lib.hid hbody;have Hels:=Lib.hid hels;have Hcell:=Lib.hid hcell;have Hcall:=Lib.hid hcall;have Hone:=Lib.hid hone;have Hc:=Lib.hid (And.intro hb1 hkc);have H1:=Lib.hid h1;have HI:=Lib.hid hI;have Hf:=Lib.hid hf
 have hcb:c.bulk≤1100000:=by omega
 have hbel:=WStp.below H.wr sa
 have k0:=hbx.c0
 have k1:=hbx.c1
 have k2:=hbx.c2
 have k3:=hbx.c3
 have k4:=hbx.c4
 have k5:=hbx.c5
 obtain ⟨q0,q1,q2,q3,q4⟩:=hcell _ hbel
 simp only [Nat.zero_mul,Nat.add_zero] at q0 q1 q2 q3 q4
 rw [h1] at k3
 have hl0:0 < s.l.length:=by omega
 have hn0:st.n+termK c 0≤49000000:=by omega
 have hcl:=hcall _ st p v l ha hbel hn0
 have Hcl:=Lib.hid hcl;have Hne:=Lib.hid hne;have Hbe:=Lib.hid hbe
 clear ha sa hbx H hbody hels hcell hcall hone hb1 hkc h1 hI hf hlr hrow hc sfa hpr hbr her hbel hn0 hcl hne hbe
 go_enter Tryz.func69,Tryz.ntmps69
 go_wp2_with fail
 refine Hcl.out.mono ?_
 rintro _ w2 ⟨r,st2,rfl,hr,hn2,h2,s2,htw⟩
 have T2:=Lib.hid htw
 clear htw
 have hs2:=Sa.out.trans s2
 have hb2:=Hbx.out.step s2
 have hrb:r.size≤71000000:=by omega
 have hi2:=hn2.inn
 have hl2:=hn2.len
 have hi2':st2.inn≤2000000:=by omega
 have hl2':st2.len≤90000000000000:=by omega
 have hln:∀ r':ByteArray,r'.size≤2000000000→Calls Tryz.prog 68 #[.pointer (some ⟨x,0,none⟩),.string r'] w2 (OneLine x w2 st2 (4 * st2.inn+r'.size+1)):=fun r' h=>wline_any h2 r' hi2' h hl2'
 have Hln:=Lib.hid hln;have Hr:=Lib.hid hr;have Hn2:=Lib.hid hn2;have S2:=Lib.hid hs2;have B2:=Lib.hid hb2
 clear hln hr hn2 hs2 hb2 h2 s2 hi2 hl2 k0 k1 k2 k3 k4 k5 q0 q1 q2 q3 q4 Hcl
 go_wp2_with fail
 refine (Hln.out _ (by simp only [ByteArray.size_append];show word.size+1+r.size+1≤_;omega)).mono ?_
 rintro _ w3 ⟨p3,v3,l3,rfl,h3,s3⟩
 have hm3:4 * st2.inn+(word ++ ⟨#[32]⟩ ++ r ++ ⟨#[58]⟩:ByteArray).size+1≤6100000+64 * c.bulk:=by
  simp only [ByteArray.size_append]
  show 4 * st2.inn+(word.size+1+r.size+1)+1≤_
  have:=Hn2.out.inn
  have:=Hr.out
  have:=Ex.bulk_pos c
  omega
 have hn3:=(Hn2.out.trans (nx_line (st:=st2) (4 * st2.inn+(word ++ ⟨#[32]⟩ ++ r ++ ⟨#[58]⟩:ByteArray).size+1)) (Nat.le_refl _) (Nat.le_refl _)).mono (Nat.le_refl _) (show 0+(4 * st2.inn+(word ++ ⟨#[32]⟩ ++ r ++ ⟨#[58]⟩:ByteArray).size+1)≤6100000+64 * c.bulk by omega)
 have hsl3:=line_eq (st:=st2) (m:=(word ++ ⟨#[32]⟩ ++ r ++ ⟨#[58]⟩:ByteArray).size) (n:=word.size+1+r.size+1) (by simp only [ByteArray.size_append];rfl)
 generalize ({ st2 with len:=st2.len+(4 * st2.inn+(word ++ ⟨#[32]⟩ ++ r ++ ⟨#[58]⟩:ByteArray).size+1) }:WS)=st3 at h3 hn3 hsl3
 have KS3:=Lib.hid hsl3
 clear hsl3
 have hs3:=S2.out.trans s3
 have hb3:=B2.out.step s3
 have k4:=hb3.c4
 have hbel3:=WStp.below HH.out.wr hs3
 have hbd:=Hbody.out w3 st3 p3 v3 l3 h3 hbel3 (by have:=hn3.n;have:=Hne.out;have:=Hc.out;omega) (by have:=hn3.inn;omega) (by have:=hn3.len;have:=Hbe.out;have:=Hc.out;omega)
 have Hbd:=Lib.hid hbd;have Hn3:=Lib.hid hn3;have S3:=Lib.hid hs3;have B3:=Lib.hid hb3
 clear hbd hn3 hs3 hb3 h3 s3 hbel3 hm3 Hln
 go_wp2_with fail
 refine Hbd.out.mono ?_
 rintro _ w4 ⟨st4,p4,v4,l4,rfl,hn4,⟨hq4,hbw4⟩,h4,s4⟩
 have W4:=Lib.hid hbw4
 clear hbw4
 have hs4:=S3.out.trans s4
 have hb4:=B3.out.step s4
 have k5:=hb4.c5
 have hbel4:=WStp.below HH.out.wr hs4
 have hn34:=Hn3.out.trans hn4 (Nat.le_refl _) (Nat.le_refl _)
 have Hn34:=Lib.hid hn34;have Hq4:=Lib.hid hq4;have H4:=Lib.hid h4;have S4:=Lib.hid hs4;have B4:=Lib.hid hb4;have Bel4:=Lib.hid hbel4
 clear hn34 hq4 h4 hs4 hb4 hbel4 s4 hn4 k4 Hbd
 by_cases e0:s.els.length=0
 · have he:s.els= []:=List.eq_nil_of_length_eq_zero e0
   have t1:((s.els.length:Int) == 0)=true:=by rw [beq_iff_eq];omega
   have He:=Lib.hid he
   clear he e0
   go_wp2_with fail
   go_end0
   refine ⟨st4,p4,v4,l4,rfl,Hn34.out.mono ?_ ?_,⟨fun h=>⟨Hq4.out h,by rw [He.out];trivial⟩,IW.none KL.out T2.out (by rw [← KS3.out];exact W4.out) He.out⟩,H4.out,S4.out⟩
   · have:=Hne.out;have:=Hc.out;omega
   · have:=Hbe.out;have:=Hc.out;omega
 · have t1:((s.els.length:Int) == 0)=false:=by rw [beq_eq_false_iff_ne];omega
   by_cases e1:s.els.length=1
   · obtain ⟨e,b2,o2,ce2,ap2,al2,ab2,ae2,cp2,cl2,cb2,c52,hes,hve,hebn,hecell,hestm⟩:=Hone.out e1
     obtain ⟨rfl,_,rfl⟩:=Value.slice.inj hve
     have t2:((s.els.length:Int) == 1)=true:=by rw [beq_iff_eq];omega
     have t4:0 < s.els.length:=by omega
     rw [e1] at Hels k5
     obtain ⟨r0,r1,r2,r3,r4,r5⟩:=hecell _ Bel4.out
     have Hcells:=Lib.hid hecell;have Hes:=Lib.hid hes;have Hebn:=Lib.hid hebn;have Hestm:=Lib.hid hestm
     clear hve hes hebn hecell hestm
     by_cases hkd:e.kind=sIf
     · have t5:((toBA e.kind).toList == [105,102])=true:=(by rw [m_toList];simp [hkd,sIf])
       have hR:=right_any H4.out e ap2 al2 ab2 ae2 cp2 cl2 cb2 c52 (by rw [hkd];decide) (by have:=Stm.bulk_eq e;have:=Hebn.out.1;have:=HH.out.bulk;have:=Hbe.out;omega) (HH.out.glob.below Bel4.out)
       have Hkd:=Lib.hid hkd
       clear hkd
       by_cases hr:(st4.right e).ok=true
       · rw [hr] at hR
         have HR:=Lib.hid hR;have Hr:=Lib.hid hr
         clear hR hr
         go_wp2_with fail
         refine HR.out.mono ?_
         rintro _ w5 ⟨rfl,h5,s5⟩
         clear HR
         have hx5:=Nx.right st4 e 0 0
         skip
         have hq5:(st4.right e).ok=true→stmsNamed s.body:=fun h=>Hq4.out (hx5.ok h)
         have hn5:=Hn34.out.trans hx5 (Nat.le_refl _) (Nat.le_refl _)
         have hs5:=S4.out.trans s5
         have hb5:=B4.out.step s5
         clear H4 Hn34 Hq4 S4 B4 Bel4 k5 hx5
         have k5:=hb5.c5
         rw [e1] at k5
         have hbel5:=WStp.below HH.out.wr hs5
         have Hn34:=Lib.hid hn5;have Hq4:=Lib.hid hq5;have H4:=Lib.hid h5;have S4:=Lib.hid hs5;have B4:=Lib.hid hb5;have Bel4:=Lib.hid hbel5
         clear hq5 hn5 hs5 hb5 s5 h5 hbel5
         generalize hgen:(st4.right e)=stR at Hn34 Hq4 H4
         have KE1:=Lib.hid hgen
         clear hgen
         have hL:=look_any H4.out (by have:=Hn34.out.n;have:=Hne.out;have:=Hc.out;have:=HH.out.n;omega)
         by_cases hl:stR.look.ok=true
         · rw [hl] at hL
           have HL:=Lib.hid hL;have Hlk:=Lib.hid hl
           clear hL hl
           go_wp2_with fail
           refine HL.out.mono ?_
           rintro _ w5 ⟨rfl,h5,s5⟩
           clear HL
           have hx5:=Nx.look stR 0 0
           skip
           have hq5:stR.look.ok=true→stmsNamed s.body:=fun h=>Hq4.out (hx5.ok h)
           have hn5:=Hn34.out.trans hx5 (Nat.le_refl _) (Nat.le_refl _)
           have hs5:=S4.out.trans s5
           have hb5:=B4.out.step s5
           clear H4 Hn34 Hq4 S4 B4 Bel4 k5 hx5
           have k5:=hb5.c5
           rw [e1] at k5
           have hbel5:=WStp.below HH.out.wr hs5
           have Hn34:=Lib.hid hn5;have Hq4:=Lib.hid hq5;have H4:=Lib.hid h5;have S4:=Lib.hid hs5;have B4:=Lib.hid hb5;have Bel4:=Lib.hid hbel5
           clear hq5 hn5 hs5 hb5 s5 h5 hbel5
           generalize hgen:stR.look=stL at Hn34 Hq4 H4
           have KE2:=Lib.hid hgen
           clear hgen
           obtain ⟨r0,r1,r2,r3,r4,r5⟩:=Hcells.out _ Bel4.out
           have hsm:=Hestm.out _ stL _ _ _ H4.out Bel4.out (by have:=Hn34.out.n;have:=Hne.out;have:=Hc.out;have:=HH.out.n;have:=Hebn.out;omega) (by have:=Hn34.out.inn;omega) (by have:=Hn34.out.len;have:=Hbe.out;have:=Hc.out;have:=Hebn.out;omega)
           have hif:=HI.out e ⟨#[101,108,105,102]⟩ deep _ x stL _ _ _ _ _ _ _ (by have:=Hne.out;have:=Hf.out;have:=Hebn.out;omega) (form_if Hkd.out (right_ok Hr.out).1) (by decide) hsm
           have Hif:=Lib.hid hif
           clear hsm hif
           go_wp2_with fail
           refine Hif.out.mono ?_
           rintro _ w7 ⟨st7,p7,v7,l7,rfl,hn7,⟨hq7,hiw7⟩,h7,s7⟩
           have W7:=Lib.hid hiw7
           clear hiw7
           have Hn7:=Lib.hid hn7;have Hq7:=Lib.hid hq7;have H7:=Lib.hid h7;have S7:=Lib.hid (S4.out.trans s7)
           clear hn7 hq7 h7 s7 Hif
           go_wp2_with fail
           go_end0
           refine ⟨st7,p7,v7,l7,rfl,Hn34.out.trans Hn7.out ?_ ?_,⟨fun h=>⟨Hq4.out (Hn7.out.ok h),?_⟩,IW.elif KL.out T2.out (by rw [← KS3.out];exact W4.out) Hes.out Hkd.out Hr.out (by rw [KE1.out];exact Hlk.out) (by rw [KE1.out,KE2.out];exact W7.out)⟩,H7.out,S7.out⟩
           · have:=Hne.out;have:=Hc.out;have:=Hebn.out;omega
           · have:=Hbe.out;have:=Hc.out;have:=Hebn.out;omega
           · rw [Hes.out]
             exact ⟨named_if Hkd.out (Hq7.out h).1 (Hq7.out h).2,trivial⟩
         · rw [Bool.not_eq_true] at hl
           have hlf:=Lib.hid hl
           rw [hl] at hL
           have HL:=Lib.hid hL
           clear hL hl
           go_wp2_with fail
           refine HL.out.mono ?_
           rintro _ w5 ⟨rfl,h5,s5⟩
           clear HL
           have hx5:=Nx.look stR 0 0
           skip
           have hq5:stR.look.ok=true→stmsNamed s.body:=fun h=>Hq4.out (hx5.ok h)
           have hn5:=Hn34.out.trans hx5 (Nat.le_refl _) (Nat.le_refl _)
           have hs5:=S4.out.trans s5
           have hb5:=B4.out.step s5
           clear H4 Hn34 Hq4 S4 B4 Bel4 k5 hx5
           have k5:=hb5.c5
           rw [e1] at k5
           have hbel5:=WStp.below HH.out.wr hs5
           have Hn34:=Lib.hid hn5;have Hq4:=Lib.hid hq5;have H4:=Lib.hid h5;have S4:=Lib.hid hs5;have B4:=Lib.hid hb5;have Bel4:=Lib.hid hbel5
           clear hq5 hn5 hs5 hb5 s5 h5 hbel5
           generalize hgen:stR.look=stL at hlf Hn34 Hq4 H4
           have KE2:=Lib.hid hgen
           clear hgen
           go_wp2_with fail
           go_end0
           have h9:=IW.noLook KL.out T2.out (k:=word.size) (st2:=st4) (deep:=deep) (by rw [← KS3.out];exact W4.out) Hes.out Hkd.out Hr.out (by rw [KE1.out,KE2.out];exact hlf.out)
           rw [KE1.out,KE2.out] at h9
           refine ⟨stL,_,_,_,rfl,Hn34.out.mono ?_ ?_,⟨fun h=>⟨Hq4.out h,by rw [hlf.out] at h;exact absurd h (by decide)⟩,h9⟩,H4.out,S4.out⟩
           · have:=Hne.out;have:=Hc.out;omega
           · have:=Hbe.out;have:=Hc.out;omega
       · rw [Bool.not_eq_true] at hr
         rw [hr] at hR
         have HR:=Lib.hid hR;have hrf:=Lib.hid hr
         clear hR hr
         go_wp2_with fail
         refine HR.out.mono ?_
         rintro _ w5 ⟨rfl,h5,s5⟩
         clear HR
         have hx5:=Nx.right st4 e 0 0
         skip
         have hq5:(st4.right e).ok=true→stmsNamed s.body:=fun h=>Hq4.out (hx5.ok h)
         have hn5:=Hn34.out.trans hx5 (Nat.le_refl _) (Nat.le_refl _)
         have hs5:=S4.out.trans s5
         have hb5:=B4.out.step s5
         clear H4 Hn34 Hq4 S4 B4 Bel4 k5 hx5
         have k5:=hb5.c5
         rw [e1] at k5
         have hbel5:=WStp.below HH.out.wr hs5
         have Hn34:=Lib.hid hn5;have Hq4:=Lib.hid hq5;have H4:=Lib.hid h5;have S4:=Lib.hid hs5;have B4:=Lib.hid hb5;have Bel4:=Lib.hid hbel5
         clear hq5 hn5 hs5 hb5 s5 h5 hbel5
         generalize hgen:(st4.right e)=stR at hrf Hn34 Hq4 H4
         have KE1:=Lib.hid hgen
         clear hgen
         go_wp2_with fail
         go_end0
         have h9:=IW.noRight KL.out T2.out (k:=word.size) (st2:=st4) (deep:=deep) (by rw [← KS3.out];exact W4.out) Hes.out Hkd.out (by rw [KE1.out];exact hrf.out)
         rw [KE1.out] at h9
         refine ⟨stR,_,_,_,rfl,Hn34.out.mono ?_ ?_,⟨fun h=>⟨Hq4.out h,by rw [hrf.out] at h;exact absurd h (by decide)⟩,h9⟩,H4.out,S4.out⟩
         · have:=Hne.out;have:=Hc.out;omega
         · have:=Hbe.out;have:=Hc.out;omega
     · have t5:((toBA e.kind).toList == [105,102])=false:=m_ne hkd
       have KKD:=Lib.hid hkd
       clear hkd
       skip
       have hin4:=Hn34.out.inn
       have hln4:=Hn34.out.len
       have hwl:=wline_any H4.out (⟨#[101,108,115,101,58]⟩:ByteArray) (by omega) (by decide) (by have:=Hbe.out;have:=Hc.out;omega)
       have Hwl:=Lib.hid hwl
       clear hwl
       go_wp2_with fail
       refine Hwl.out.mono ?_
       rintro _ w6 ⟨p6,v6,l6,rfl,h6,s6⟩
       have hn6:=Hn34.out.trans (nx_line (st:=st4) (4 * st4.inn+(⟨#[101,108,115,101,58]⟩:ByteArray).size+1)) (Nat.le_refl _) (Nat.le_refl _)
       have hm6:4 * st4.inn+(⟨#[101,108,115,101,58]⟩:ByteArray).size+1≤6100000:=by
        show 4 * st4.inn+5+1≤_
        omega
       have hok6:({ st4 with len:=st4.len+(4 * st4.inn+(⟨#[101,108,115,101,58]⟩:ByteArray).size+1) }:WS).ok=true→st4.ok=true:=id
       have hsl6:=line_eq (st:=st4) (m:=(⟨#[101,108,115,101,58]⟩:ByteArray).size) (n:=5) rfl
       generalize 4 * st4.inn+(⟨#[101,108,115,101,58]⟩:ByteArray).size+1=m6 at h6 hn6 hm6 hok6 hsl6
       have hs6:=S4.out.trans s6
       have hb6:=B4.out.step s6
       have hbel6:=WStp.below HH.out.wr hs6
       generalize ({ st4 with len:=st4.len+m6 }:WS)=st6 at h6 hn6 hok6 hsl6
       have KS6:=Lib.hid hsl6
       clear hsl6
       have hel:=Hels.out _ st6 p6 v6 l6 h6 hbel6 (by have:=hn6.n;have:=Hne.out;have:=Hc.out;omega) (by have:=hn6.inn;omega) (by have:=hn6.len;have:=Hbe.out;have:=Hc.out;omega)
       have Hel:=Lib.hid hel;have Hn6:=Lib.hid hn6;have S6:=Lib.hid hs6;have Hok6:=Lib.hid hok6
       clear k5
       have k5:=hb6.c5
       clear hel hn6 hs6 h6 s6 hb6 hbel6 hin4 hln4 hok6 Hwl
       go_wp2_with fail
       refine Hel.out.mono ?_
       rintro _ w7 ⟨st7,p7,v7,l7,rfl,hn7,⟨hq7,hbw7⟩,h7,s7⟩
       have W7:=Lib.hid hbw7
       clear hbw7
       have Hn7:=Lib.hid hn7;have Hq7:=Lib.hid hq7;have H7:=Lib.hid h7;have S7:=Lib.hid (S6.out.trans s7)
       clear hn7 hq7 h7 s7 Hel
       go_wp2_with fail
       go_end0
       refine ⟨st7,p7,v7,l7,rfl,Hn6.out.trans Hn7.out ?_ ?_,⟨fun h=>⟨Hq4.out (Hok6.out (Hn7.out.ok h)),Hq7.out h⟩,IW.else KL.out T2.out (by rw [← KS3.out];exact W4.out) (fun h=>e0 (by rw [h];rfl)) (fun e' h=>by rw [Hes.out] at h;obtain rfl:=List.head_eq_of_cons_eq h;exact KKD.out) (by rw [← KS6.out];exact W7.out)⟩,H7.out,S7.out⟩
       · have:=Hne.out;have:=Hc.out;omega
       · have:=Hbe.out;have:=Hc.out;omega
   · have t2:((s.els.length:Int) == 1)=false:=by rw [beq_eq_false_iff_ne];omega
     skip
     have hin4:=Hn34.out.inn
     have hln4:=Hn34.out.len
     have hwl:=wline_any H4.out (⟨#[101,108,115,101,58]⟩:ByteArray) (by omega) (by decide) (by have:=Hbe.out;have:=Hc.out;omega)
     have Hwl:=Lib.hid hwl
     clear hwl
     go_wp2_with fail
     refine Hwl.out.mono ?_
     rintro _ w6 ⟨p6,v6,l6,rfl,h6,s6⟩
     have hn6:=Hn34.out.trans (nx_line (st:=st4) (4 * st4.inn+(⟨#[101,108,115,101,58]⟩:ByteArray).size+1)) (Nat.le_refl _) (Nat.le_refl _)
     have hm6:4 * st4.inn+(⟨#[101,108,115,101,58]⟩:ByteArray).size+1≤6100000:=by
      show 4 * st4.inn+5+1≤_
      omega
     have hok6:({ st4 with len:=st4.len+(4 * st4.inn+(⟨#[101,108,115,101,58]⟩:ByteArray).size+1) }:WS).ok=true→st4.ok=true:=id
     have hsl6:=line_eq (st:=st4) (m:=(⟨#[101,108,115,101,58]⟩:ByteArray).size) (n:=5) rfl
     generalize 4 * st4.inn+(⟨#[101,108,115,101,58]⟩:ByteArray).size+1=m6 at h6 hn6 hm6 hok6 hsl6
     have hs6:=S4.out.trans s6
     have hb6:=B4.out.step s6
     have hbel6:=WStp.below HH.out.wr hs6
     generalize ({ st4 with len:=st4.len+m6 }:WS)=st6 at h6 hn6 hok6 hsl6
     have KS6:=Lib.hid hsl6
     clear hsl6
     have hel:=Hels.out _ st6 p6 v6 l6 h6 hbel6 (by have:=hn6.n;have:=Hne.out;have:=Hc.out;omega) (by have:=hn6.inn;omega) (by have:=hn6.len;have:=Hbe.out;have:=Hc.out;omega)
     have Hel:=Lib.hid hel;have Hn6:=Lib.hid hn6;have S6:=Lib.hid hs6;have Hok6:=Lib.hid hok6
     clear k5
     have k5:=hb6.c5
     clear hel hn6 hs6 h6 s6 hb6 hbel6 hin4 hln4 hok6 Hwl
     go_wp2_with fail
     refine Hel.out.mono ?_
     rintro _ w7 ⟨st7,p7,v7,l7,rfl,hn7,⟨hq7,hbw7⟩,h7,s7⟩
     have W7:=Lib.hid hbw7
     clear hbw7
     have Hn7:=Lib.hid hn7;have Hq7:=Lib.hid hq7;have H7:=Lib.hid h7;have S7:=Lib.hid (S6.out.trans s7)
     clear hn7 hq7 h7 s7 Hel
     go_wp2_with fail
     go_end0
     refine ⟨st7,p7,v7,l7,rfl,Hn6.out.trans Hn7.out ?_ ?_,⟨fun h=>⟨Hq4.out (Hok6.out (Hn7.out.ok h)),Hq7.out h⟩,IW.else KL.out T2.out (by rw [← KS3.out];exact W4.out) (fun h=>e0 (by rw [h];rfl)) (fun e h=>absurd (by rw [h];rfl) e1) (by rw [← KS6.out];exact W7.out)⟩,H7.out,S7.out⟩
     · have:=Hne.out;have:=Hc.out;omega
     · have:=Hbe.out;have:=Hc.out;omega
end Go.Proofs.YtdoaeapahgmfoaaGreatDoor
namespace Go.Proofs.YtdoaeapahgmfoaaGreatDoor
open Go.RowKit
theorem form_parts {s:Stm} {f:KindF} (hk:kindF s.kind=some f) (h:formOk s=true):
 (f.name=false→s.name= [])∧(f.names=false→s.p= [])∧(f.body=false→s.body= [])∧(f.other=false→s.els= [])∧((s.l.length:Int)=f.terms∨(f.terms < 0∧s.l.length < 2)):=by
 unfold formOk at h
 rw [hk] at h
 simp only [Bool.and_eq_true,Bool.or_eq_true,decide_eq_true_iff] at h
 obtain ⟨⟨⟨⟨h1,h2⟩,h3⟩,h4⟩,h5⟩:=h
 refine ⟨fun e=> ?_,fun e=> ?_,fun e=> ?_,fun e=> ?_,h5⟩
 · rcases h1 with h | h
   · rw [e] at h;exact absurd h (by decide)
   · exact h
 · rcases h2 with h | h
   · rw [e] at h;exact absurd h (by decide)
   · exact h
 · rcases h3 with h | h
   · rw [e] at h;exact absurd h (by decide)
   · exact h
 · rcases h4 with h | h
   · rw [e] at h;exact absurd h (by decide)
   · exact h
theorem nameOk_ne {s:List UInt8} (h:nameOk s=true):s≠ []:=by
 rintro rfl
 have e:nameOk []=false:=by decide
 rw [e] at h
 exact absurd h (by decide)
theorem named_of {st:WS} {s:Stm} (hr:(st.right s).ok=true) (h1:stmsNamed s.body) (h2:stmsNamed s.els):s.named:=by
 rw [Stm.named_eq]
 refine ⟨fun h=>nameOk_ne ((right_ok hr).2 ?_),fun h=> ?_,h1,h2⟩
 · unfold hasName
   rcases h with h | h | h | h <;> rw [h] <;> rfl
 · rcases h with h | h
   · exact (form_parts (f:=⟨false,false,1,true,false⟩) (by rw [h];rfl) (right_ok hr).1).2.2.2.1 rfl
   · exact (form_parts (f:=⟨true,false,1,true,false⟩) (by rw [h];rfl) (right_ok hr).1).2.2.2.1 rfl
theorem nil_named {ss:List Stm} (h:ss= []):stmsNamed ss:=by rw [h];trivial
structure BoxP (W:World) (x bp:Nat):Prop where
 blk:W.heap[bp]? =some (.cells #[.pointer (some ⟨x,0,none⟩)] 73 (0,0))
 safe:WSafe W x bp
section
variable {W W':World} {x bp:Nat}
theorem BoxP.step (h:BoxP W x bp) (t:WStp x W W'):BoxP W' x bp:=⟨(t.safe bp h.safe).2.trans h.blk,(t.safe bp h.safe).1⟩
theorem BoxP.drew (h:BoxP W x bp):BoxP W.drew x bp:=⟨h.blk,h.safe⟩
theorem BoxP.c0 (h:BoxP W x bp):W.cell? ⟨bp,0,none⟩=some (.pointer (some ⟨x,0,none⟩)):=by rw [cell_of_blk h.blk];rfl
end
end Go.Proofs.YtdoaeapahgmfoaaGreatDoor

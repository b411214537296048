/- nurserypylaw1.ScopeNames: the walk. -/
import Derived.Laws.Cover1
import Derived.Test.YtdoaeapahgmfoaaGreatDoorZ47
import Derived.Test.YtdoaeapahgmfoaaGreatDoorZ50
import Derived.Test.YtdoaeapahgmfoaaGreatDoorZ51
namespace Go.Proofs.YtdoaeapahgmfoaaGreatDoor
open Go.RowKit
theorem sc_lens2 (l:List Stm) (hbk:stmsBulk l≤1100000) (i:Nat):(scF (firstF l).fr (usesF (firstF l).fr) i).locals.length≤20000000∧(scF (firstF l).fr (usesF (firstF l).fr) i).cells.length≤20000000:=by
 have hb:(((firstF l).fr.getD i dfr).bound).length≤1+8 * stmsBulk l:=(sm_first l).row i 0
 rw [scF_eq]
 exact ⟨Nat.le_trans (locQ_len _ _ _) (by omega),Nat.le_trans (celQ_len _ _ _) (by omega)⟩
theorem ScsAt.lo2 {w:World} {G:Nat→Prop} {A:Nat} {v:Value} {l:List Sc} (h:ScsAt w G v l) (hG:∀ b,G b→b < A):ScsAt w (Lo A) v l:=h.mono (fun _ _ _=>rfl) hG
set_option maxRecDepth 100000 in
set_option maxHeartbeats 40000000 in
theorem scopeNames_any {p:Nat→Addr} {w:World} {l:List Stm} {v:Value} (hg:GlobT w.heap.size w) (hE:Errs p w) (hl:StmsAt w (Lo w.heap.size) v l) (hft:stmsFit l) (hbk:stmsBulk l≤1048600):
 Calls Tryz.prog 3 #[v] w fun e w'=>e= .returned (.bool true)∧Below w.heap.size w w':=by
 have hen:∃ te pe,w.cell? ⟨3,0,none⟩=some (.iface te pe):=⟨_,_,hE.cell 3 (by omega)⟩
 have Hbare:=Lib.hid (lawBare_any hen)
 have Hg:=Lib.hid hg;have Hl:=Lib.hid hl;have Hft:=Lib.hid hft;have HE:=Lib.hid hE
 obtain ⟨av,cv,rfl,_⟩:=hl
 clear hg hft hen hE
 go_enter Tryz.func3,Tryz.ntmps3
 go_wp2_with fail
 refine Hbare.out.mono ?_
 rintro _ w1 ⟨rfl,hb1⟩
 have hl1:StmsAt w1 (Lo w1.heap.size) (.slice av l.length cv) l:=(Hl.out.below hb1).mono (fun _ _ _=>rfl) fun b h=>Nat.lt_of_lt_of_le h hb1.size
 have Hwt:=Lib.hid (weight_any (stmsNodes l) l w1 _ (Nat.le_refl _) (by omega) hl1)
 have Hb1:=Lib.hid hb1
 clear hb1 hl1 Hbare
 by_cases hw:stmsW l≤800
 · have t1:decide ((800:Int) < (stmsW l:Int))=false:=by rw [decide_eq_false_iff_not];omega
   have t2:decide (800 < stmsW l)=false:=by rw [decide_eq_false_iff_not];omega
   obtain ⟨r1,r2,r3⟩:=stmsRen_le l
   have hbm:stmsBulk (stmsRen l)≤1100000:=by omega
   have hwm:stmsW (stmsRen l)≤6000:=by omega
   have Hftm:=Lib.hid (r3 Hft.out)
   clear r1 r2 r3
   go_wp2_with fail
   refine Hwt.out.mono ?_
   rintro _ w2 ⟨rfl,hb2⟩
   have hb12:=Hb1.out.trans (hb2.mono Hb1.out.size)
   have hl2:StmsAt w2 (Lo w2.heap.size) (.slice av l.length cv) l:=(Hl.out.below hb12).mono (fun _ _ _=>rfl) fun b h=>Nat.lt_of_lt_of_le h hb12.size
   have Hso:=Lib.hid (otherStmts_any (stmsNodes l) l w2 _ (Nat.le_refl _) (by omega) hl2)
   have HB2:=Lib.hid hb12
   clear hb2 hb12 hl2 Hwt Hb1
   go_wp2_with fail
   refine Hso.out.mono ?_
   rintro _ w3 ⟨hb3,vm,rfl,hm3⟩
   have hb3:=HB2.out.trans (hb3.mono HB2.out.size)
   have hm3:StmsAt w3 (Lo w3.heap.size) vm (stmsRen l):=hm3.mono (fun _ _ _=>rfl) fun b h=>h.2
   have hl3:StmsAt w3 (Lo w3.heap.size) (.slice av l.length cv) l:=(Hl.out.below hb3).mono (fun _ _ _=>rfl) fun b h=>Nat.lt_of_lt_of_le h hb3.size
   have Hso3:=Lib.hid (stmtsOf_any (stmsNodes l) l w3 _ (Nat.le_refl _) (by omega) hl3)
   have Hm3:=Lib.hid hm3
   obtain ⟨am,cm,rfl,_⟩:=hm3
   have HB3:=Lib.hid hb3
   clear hb3 hl3 Hso HB2
   go_wp2_with fail
   refine Hso3.out.mono ?_
   rintro _ w4 ⟨hb4,v4,rfl,hs4⟩
   have hb34:=hb4
   have hb4:=HB3.out.trans (hb4.mono HB3.out.size)
   have hs4:StmsAt w4 (Lo w4.heap.size) v4 l:=hs4.mono (fun _ _ _=>rfl) fun b h=>h.2
   have Htx:=Lib.hid (ttext_any ((Hg.out.below hb4).mono hb4.size) hs4 Hft.out (by omega) (by omega))
   obtain ⟨a4,c4,rfl,_⟩:=hs4
   have HB34:=Lib.hid hb34;have HB4:=Lib.hid hb4
   clear hb34 hb4 Hso3
   go_wp2_with fail
   refine Htx.out.mono ?_
   rintro _ w5 ⟨r5,er5,rfl,hc5,hb5⟩
   have hb35:=HB34.out.trans (hb5.mono HB34.out.size)
   have hb5:=HB4.out.trans (hb5.mono HB4.out.size)
   have hm5:StmsAt w5 (Lo w5.heap.size) (.slice am (stmsRen l).length cm) (stmsRen l):=(Hm3.out.below hb35).mono (fun _ _ _=>rfl) fun b h=>Nat.lt_of_lt_of_le h hb35.size
   have Hso5:=Lib.hid (stmtsOf_any (stmsNodes (stmsRen l)) (stmsRen l) w5 _ (Nat.le_refl _) hbm hm5)
   have HB35:=Lib.hid hb35;have HB5:=Lib.hid hb5;have HC5:=Lib.hid hc5
   have her5:er5= .nilIface∨∃ te pe,er5= .iface te pe:=by
    rcases hc5 with ⟨h,_⟩ | ⟨_,_,te,pe,h⟩
    · exact .inl h
    · exact .inr ⟨te,pe,h⟩
   clear hb35 hb5 hc5 hm5 Htx HB34 HB4
   go_wp2_with fail
   refine Hso5.out.mono ?_
   rintro _ w6 ⟨hb6,v6,rfl,hs6⟩
   have hb36:=HB35.out.trans (hb6.mono HB35.out.size)
   have hb6:=HB5.out.trans (hb6.mono HB5.out.size)
   have hs6:StmsAt w6 (Lo w6.heap.size) v6 (stmsRen l):=hs6.mono (fun _ _ _=>rfl) fun b h=>h.2
   have Htx:=Lib.hid (ttext_any ((Hg.out.below hb6).mono hb6.size) hs6 Hftm.out hbm hwm)
   obtain ⟨a6,c6,rfl,_⟩:=hs6
   have HB36:=Lib.hid hb36;have HB6:=Lib.hid hb6
   clear hb36 hb6 Hso5 HB35 HB5
   go_wp2_with fail
   refine Htx.out.mono ?_
   rintro _ w7 ⟨r7,er7,rfl,hc7,hb7⟩
   have HB37:=Lib.hid (HB36.out.trans (hb7.mono HB36.out.size))
   have HB7:=Lib.hid (HB6.out.trans (hb7.mono HB6.out.size))
   have HC7:=Lib.hid hc7
   have her7:er7= .nilIface∨∃ te pe,er7= .iface te pe:=by
    rcases hc7 with ⟨h,_⟩ | ⟨_,_,te,pe,h⟩
    · exact .inl h
    · exact .inr ⟨te,pe,h⟩
   clear hb7 hc7 Htx HB36 HB6
   rcases her5 with rfl | ⟨te5,pe5,rfl⟩
   · rcases her7 with rfl | ⟨te7,pe7,rfl⟩
     · obtain ⟨hn5,hno5⟩:stmsNamed l∧¬ NoText l:=by
        rcases HC5.out with ⟨_,h1,h2⟩ | ⟨_,_,te,pe,h⟩
        · exact ⟨h1,h2⟩
        · cases h
       have hno7:¬ NoText (stmsRen l):=by
        rcases HC7.out with ⟨_,_,h2⟩ | ⟨_,_,te,pe,h⟩
        · exact h2
        · cases h
       have hl7:StmsAt w7 (Lo w7.heap.size) (.slice av l.length cv) l:=(Hl.out.below HB7.out).mono (fun _ _ _=>rfl) fun b h=>Nat.lt_of_lt_of_le h HB7.out.size
       have Hso7:=Lib.hid (stmtsOf_any (stmsNodes l) l w7 _ (Nat.le_refl _) (by omega) hl7)
       clear hl7 HC5 HC7
       go_wp2_with fail
       refine Hso7.out.mono ?_
       rintro _ w8 ⟨hb8,v8,rfl,hs8⟩
       have hb38:=HB37.out.trans (hb8.mono HB37.out.size)
       have hb8:=HB7.out.trans (hb8.mono HB7.out.size)
       have hs8:StmsAt w8 (Lo w8.heap.size) v8 l:=hs8.mono (fun _ _ _=>rfl) fun b h=>h.2
       have hE8:=HE.out.below hb8
       have Hsc:=Lib.hid (scopes_any (ttext_no ((Hg.out.below hb8).mono hb8.size) hs8 Hft.out (by omega) (by omega)) ⟨_,_,hE8.cell 3 (by omega)⟩ hs8 (by omega))
       obtain ⟨a8,c8,rfl,_⟩:=hs8
       have HB38:=Lib.hid hb38;have HB8:=Lib.hid hb8
       clear hb38 hb8 Hso7 HB37 HB7 hE8
       go_wp2_with fail
       refine Hsc.out.mono ?_
       rintro _ w9 ⟨hb9,hc9⟩
       have hb89:=hb9
       have hb39:=HB38.out.trans (hb9.mono HB38.out.size)
       have hb9:=HB8.out.trans (hb9.mono HB8.out.size)
       have hm9:StmsAt w9 (Lo w9.heap.size) (.slice am (stmsRen l).length cm) (stmsRen l):=(Hm3.out.below hb39).mono (fun _ _ _=>rfl) fun b h=>Nat.lt_of_lt_of_le h hb39.size
       have Hso9:=Lib.hid (stmtsOf_any (stmsNodes (stmsRen l)) (stmsRen l) w9 _ (Nat.le_refl _) hbm hm9)
       have Hsc11:∀ w10 v10,Below w9.heap.size w9 w10→StmsAt w10 (Lo w10.heap.size) v10 (stmsRen l)→Calls Tryz.prog 13 #[v10] w10 (ScopesPost (NoText (stmsRen l)) w10 (stmsRen l)):=fun w10 v10 hb10 hs10=>by
        have hb:=hb9.trans (hb10.mono hb9.size)
        have hE10:=HE.out.below hb
        exact scopes_any (ttext_no ((Hg.out.below hb).mono hb.size) hs10 Hftm.out hbm hwm) ⟨_,_,hE10.cell 3 (by omega)⟩ hs10 hbm
       have HSc11:=Lib.hid Hsc11
       have HB9:=Lib.hid hb9
       have hren:=secondF_ren l hn5
       have Hfr:=Lib.hid (firstF_ren l hn5)
       have Hcase:=Lib.hid hc9
       clear hb39 hm9 Hsc HB38 Hsc11
       rcases hc9 with ⟨te9,pe9,rfl,hcz⟩ | ⟨v9,rfl,_,hbad,hsc⟩
       · clear Hcase
         rcases hcz with ⟨h,_⟩ | ⟨n9,at9,te2,pe2,rfl,rfl,_,hbad,hz0,hz1,hz2⟩
         · exact absurd h hno5
         have e9:=(HE.out.below HB8.out).cell 3 (by omega)
         rw [show errG 3=3 from rfl,hz2] at e9
         obtain ⟨rfl,rfl⟩:te2=281∧pe2= .pointer (some (p 3)):=by
          simpa using e9
         have Hz0:=Lib.hid hz0;have Hz1:=Lib.hid hz1;have Hbad:=Lib.hid (show (secondF (stmsRen l)).bad≠ [] by rw [hren];exact hbad)
         clear hz0 hz1 hz2 e9 hbad hb9 hb89 hren
         go_wp2_with fail
         refine Hso9.out.mono ?_
         rintro _ w10 ⟨hb10,v10,rfl,hs10⟩
         have hs10:StmsAt w10 (Lo w10.heap.size) v10 (stmsRen l):=hs10.mono (fun _ _ _=>rfl) fun b h=>h.2
         have Hsc10:=Lib.hid (HSc11.out w10 v10 hb10 hs10)
         have HB10:=Lib.hid hb10
         obtain ⟨a10,c10,rfl,_⟩:=hs10
         clear hb10 Hso9
         go_wp2_with fail
         refine Hsc10.out.mono ?_
         rintro _ w11 ⟨hb11,hc11⟩
         rcases hc11 with ⟨te11,pe11,rfl,hcz⟩ | ⟨v11,rfl,_,hbad,_⟩
         · rcases hcz with ⟨h,_⟩ | ⟨n11,at11,te2,pe2,rfl,rfl,_,_,hy0,hy1,hy2⟩
           · exact absurd h hno7
           have hB9_10:=HB9.out.trans (HB10.out.mono HB9.out.size)
           have e9:=(HE.out.below hB9_10).cell 3 (by omega)
           rw [show errG 3=3 from rfl,hy2] at e9
           obtain ⟨rfl,rfl⟩:te2=281∧pe2= .pointer (some (p 3)):=by
            simpa using e9
           have hB9_11:=HB10.out.trans (hb11.mono HB10.out.size)
           have hB11:=HB9.out.trans (hB9_11.mono HB9.out.size)
           have hE11:=HE.out.below hB11
           have hn9:n9 < w9.heap.size:=World.block_lt_of_cell? w9 _ Hz0.out
           have hx0:=(hB9_11.cell (p:=⟨n9,0,none⟩) hn9).trans Hz0.out
           have hx1:=(hB9_11.cell (p:=⟨n9,1,none⟩) hn9).trans Hz1.out
           have Hf1:=Lib.hid (faultedAt_any hE11 n9 at9 3 (by omega) hx0 hx1)
           have hn11:n11 < w11.heap.size:=World.block_lt_of_cell? w11 _ hy0
           have HB11:=Lib.hid hB11;have HE11:=Lib.hid hE11;have Hy0:=Lib.hid hy0;have Hy1:=Lib.hid hy1
           clear hB9_10 e9 hB9_11 hB11 hE11 hx0 hx1 hy0 hy1 hy2 hb11
           go_wp2_with fail
           refine Hf1.out.mono ?_
           rintro _ w12 ⟨rfl,hb12⟩
           have hE12:=HE11.out.below hb12
           have Hf2:=Lib.hid (faultedAt_any hE12 n11 at11 3 (by omega) ((hb12.cell (p:=⟨n11,0,none⟩) hn11).trans Hy0.out) ((hb12.cell (p:=⟨n11,1,none⟩) hn11).trans Hy1.out))
           have HB12:=Lib.hid (HB11.out.trans (hb12.mono HB11.out.size))
           clear hE12 hb12 Hf1
           go_wp2_with fail
           refine Hf2.out.mono ?_
           rintro _ w13 ⟨rfl,hb13⟩
           have HB13:=Lib.hid (HB12.out.trans (hb13.mono HB12.out.size))
           clear hb13 Hf2
           go_wp2_with fail
           refine bodyPost_ret (results_tmp rfl _ _ _) rfl ?_
           exact ⟨rfl,HB13.out⟩
         · exact absurd hbad Hbad.out
       · have hb2bad:(secondF (stmsRen l)).bad= []:=by rw [hren];exact hbad
         obtain ⟨harn,hdis⟩:=secondF_ok l hbad
         have hpos:=harn.pos
         have hsc:=hsc.lo2 (A:=w9.heap.size) fun b h=>h.2
         obtain ⟨ab,cb,rfl,hr⟩:=hsc
         obtain ⟨b,o,rfl,hbG,hz⟩:=hr (by rw [scsF_len];exact hpos)
         rw [scsF_len]
         have Hz:=Lib.hid hz;have Hbad:=Lib.hid hb2bad
         have hbl9:b < w9.heap.size:=hbG
         clear hz hr hbG hb2bad hbad hren Hcase hb9 hb89 harn hdis
         go_wp2_with fail
         refine Hso9.out.mono ?_
         rintro _ w10 ⟨hb10,v10,rfl,hs10⟩
         have hs10:StmsAt w10 (Lo w10.heap.size) v10 (stmsRen l):=hs10.mono (fun _ _ _=>rfl) fun b h=>h.2
         have Hsc10:=Lib.hid (HSc11.out w10 v10 hb10 hs10)
         have HB10:=Lib.hid hb10
         obtain ⟨a10,c10,rfl,_⟩:=hs10
         clear hb10 Hso9
         go_wp2_with fail
         refine Hsc10.out.mono ?_
         rintro _ wB ⟨hb11,hc11⟩
         rcases hc11 with ⟨te11,pe11,rfl,hcz⟩ | ⟨v11,rfl,_,_,hsc⟩
         · exfalso
           rcases hcz with ⟨h,_⟩ | ⟨_,_,_,_,_,_,_,h,_⟩
           · exact hno7 h
           · exact h Hbad.out
         have hB9B:=HB10.out.trans (hb11.mono HB10.out.size)
         have HBB:=Lib.hid (HB9.out.trans (hB9B.mono HB9.out.size))
         have hlens:=sc_lens2 l (by omega)
         have hnms:=sc_names l
         have hsc:=hsc.lo2 (A:=wB.heap.size) fun b h=>h.2
         obtain ⟨ab2,cb2,rfl,hr2⟩:=hsc
         have hfl:(firstF (stmsRen l)).fr.length=(firstF l).fr.length:=by rw [Hfr.out,ren_len]
         obtain ⟨b2,o2,rfl,hbG2,hz2⟩:=hr2 (by rw [scsF_len,hfl];exact hpos)
         rw [scsF_len,hfl]
         have hbl2:b2 < wB.heap.size:=hbG2
         have hbl:b < wB.heap.size:=Nat.lt_of_lt_of_le hbl9 hB9B.size
         obtain ⟨S,hS⟩:∃ S,S=scF (firstF l).fr (usesF (firstF l).fr):=⟨_,rfl⟩
         obtain ⟨S2,hS2⟩:∃ S2,S2=scF (firstF (stmsRen l)).fr (usesF (firstF (stmsRen l)).fr):=⟨_,rfl⟩
         have hZ1:∀ j,j < (firstF l).fr.length→ScAt wB (Lo wB.heap.size) (S j) b (o+j * 6):=fun j hj=>by
          have h:=Hz.out j (by rw [scsF_len];exact hj)
          rw [scsF_at,← hS] at h
          exact ScAt.mono (fun k o hk=>hB9B.cell (p:=⟨k,o,none⟩) hk) (fun k hk=>Nat.lt_of_lt_of_le hk hB9B.size) hbl9 h
         have hZ2:∀ j,j < (firstF l).fr.length→ScAt wB (Lo wB.heap.size) (S2 j) b2 (o2+j * 6):=fun j hj=>by
          have h:=hz2 j (by rw [scsF_len,hfl];exact hj)
          rw [scsF_at,← hS2] at h
          exact h
         have hR:∀ j,(S2 j).around=(S j).around∧(S2 j).params=(S j).params∧(S2 j).locals=(S j).locals.map qn∧(S2 j).cells=(S j).cells.map qn∧(S2 j).frees.length=(S j).frees.length:=fun j=>by
          rw [hS2,hS,Hfr.out]
          exact scs_ren (firstF l).fr j
         rw [← hS] at hlens hnms
         have hnms2:∀ j,(∀ z ∈ (S j).locals,z.length≤1100000)∧∀ z ∈ (S j).cells,z.length≤1100000:=fun j=>⟨fun z h=>by have:=(hnms j).1 z h;omega,fun z h=>by have:=(hnms j).2 z h;omega⟩
         have hnb:(firstF l).fr.length≤20000000:=by have:=(sm_first l).fr;omega
         have HZ1:=Lib.hid hZ1;have HZ2:=Lib.hid hZ2;have HR:=Lib.hid hR;have Hlens:=Lib.hid hlens;have Hnames:=Lib.hid hnms2
         clear Hz hz2 hr2 hZ1 hZ2 hR hlens hnms hnms2 hS hS2 hfl Hfr hbG2 hb11 hB9B Hsc10 HSc11 HB10 HB9 HB8
         generalize (firstF l).fr=fr at *
         have u0:((fr.length:Int) != (fr.length:Int))=false:=by simp
         go_wp2_with fail
         go_loopw [11] (fun t wr=>∃ (i:Nat),i≤fr.length∧t= .int .i64 i∧Below wB.heap.size wB wr) (fun t _=>fr.length - (intOf t).toNat)
         case atStart=>exact ⟨0,by omega,rfl,Below.refl _ _⟩
         case round=>
          obtain ⟨i,hi,rfl,hB⟩:=hrel
          by_cases hil:i < fr.length
          · have t1':decide ((i:Int) < (fr.length:Int))=true:=by simp;omega
            obtain ⟨nm,vl,vc,vf,-,c1,c2,c3,c4,c5,hL,hC,hF⟩:=HZ1.out i hil
            obtain ⟨nm2,vl2,vc2,vf2,-,d1,d2,d3,d4,d5,hL2,hC2,hF2⟩:=HZ2.out i hil
            obtain ⟨e1,e2,e3,e4,e5⟩:=HR.out i
            rw [e1] at d1
            rw [e2] at d2
            rw [e3] at hL2
            rw [e4] at hC2
            obtain ⟨hl1,hl2⟩:=Hlens.out i
            obtain ⟨hk1,hk2⟩:=Hnames.out i
            obtain ⟨s,hs⟩:∃ s,s=S i:=⟨_,rfl⟩
            rw [← hs] at c1 c2 d1 d2 hL hC hF hL2 hC2 hl1 hl2 hk1 hk2 e5
            have hbB:=hB.size
            have hB1:b < wr.heap.size:=by omega
            have hB2:b2 < wr.heap.size:=by omega
            have k1:=(hB.cell (p:=⟨b,_,none⟩) hbl).trans c1
            have k2:=(hB.cell (p:=⟨b,_,none⟩) hbl).trans c2
            have k3:=(hB.cell (p:=⟨b,_,none⟩) hbl).trans c3
            have k4:=(hB.cell (p:=⟨b,_,none⟩) hbl).trans c4
            have k5:=(hB.cell (p:=⟨b,_,none⟩) hbl).trans c5
            have m1:=(hB.cell (p:=⟨b2,_,none⟩) hbl2).trans d1
            have m2:=(hB.cell (p:=⟨b2,_,none⟩) hbl2).trans d2
            have m3:=(hB.cell (p:=⟨b2,_,none⟩) hbl2).trans d3
            have m4:=(hB.cell (p:=⟨b2,_,none⟩) hbl2).trans d4
            have m5:=(hB.cell (p:=⟨b2,_,none⟩) hbl2).trans d5
            clear c1 c2 c3 c4 c5 d1 d2 d3 d4 d5 e1 e2 e3 e4
            have HL:=Lib.hid (hL.below hB);have HC:=Lib.hid (hC.below hB);have HL2:=Lib.hid (hL2.below hB);have HC2:=Lib.hid (hC2.below hB)
            obtain ⟨aL,cL,rfl,-,-⟩:=hL
            obtain ⟨aC,cC,rfl,-,-⟩:=hC
            obtain ⟨aF,cF,rfl,-,-⟩:=hF
            obtain ⟨aL2,cL2,rfl,-,-⟩:=hL2
            obtain ⟨aC2,cC2,rfl,-,-⟩:=hC2
            obtain ⟨aF2,cF2,rfl,-,-⟩:=hF2
            rw [e5] at m5
            rw [List.length_map] at m3 m4
            have HL2:=Lib.hid (show StrsAt wr (Lo wB.heap.size) (.slice aL2 s.locals.length cL2) (s.locals.map qn) by have h:=HL2.out;rwa [List.length_map] at h)
            have HC2:=Lib.hid (show StrsAt wr (Lo wB.heap.size) (.slice aC2 s.cells.length cC2) (s.cells.map qn) by have h:=HC2.out;rwa [List.length_map] at h)
            obtain ⟨ar,har⟩:∃ ar,ar=s.around:=⟨_,rfl⟩
            obtain ⟨pr,hpr⟩:∃ pr,pr=s.params:=⟨_,rfl⟩
            rw [← har] at k1 m1
            rw [← hpr] at k2 m2
            clear har hpr e5
            have i0n:(0:Int)≤(i:Int):=Int.natCast_nonneg _
            have i1n:(i:Int) < (fr.length:Int):=by omega
            have u1:(ar != ar)=false:=by simp
            have u2:((pr:Int) != (pr:Int))=false:=by simp
            have u3:((s.frees.length:Int) != (s.frees.length:Int))=false:=by simp
            have hoth:∀ (zs:List (List UInt8)) (az:Option Addr) (cz:Nat),StrsAt wr (Lo wB.heap.size) (.slice az zs.length cz) zs→zs.length≤20000000→(∀ z ∈ zs,z.length≤1100000)→∀ W:World,Below wr.heap.size wr W→Calls Tryz.prog 16 #[.slice az zs.length cz] W fun e w'=>∃ a9 c9,e= .returned (.slice a9 zs.length c9)∧Hid (StrsAt w' (fun b=>W.heap.size≤b∧b < w'.heap.size) (.slice a9 zs.length c9) (zs.map qn))∧Hid (Below wr.heap.size wr w')∧
             w'.cell? ⟨b,o+i * 6+3,none⟩=some (.slice aL s.locals.length cL)∧w'.cell? ⟨b,o+i * 6+4,none⟩=some (.slice aC s.cells.length cC)∧w'.cell? ⟨b2,o2+i * 6+3,none⟩=some (.slice aL2 s.locals.length cL2)∧w'.cell? ⟨b2,o2+i * 6+4,none⟩=some (.slice aC2 s.cells.length cC2):=fun zs az cz hz hzl hzk W hW=>by
             have hzW:StrsAt W (Lo wB.heap.size) (.slice az zs.length cz) zs:=hz.mono (fun k o hk=>hW.cell (p:=⟨k,o,none⟩) (Nat.lt_of_lt_of_le hk hbB)) fun _ h=>h
             refine (other_big zs _ hzW (fun k hk=>Nat.lt_of_lt_of_le (Nat.lt_of_lt_of_le hk hbB) hW.size) hzl hzk).mono ?_
             rintro e w' ⟨v',rfl,ho,hb⟩
             have hbw:=below_grow hW hW.size hb
             have hst:StrsAt w' (fun b=>W.heap.size≤b∧b < w'.heap.size) v' (zs.map qn):=strs_own (by simpa [Function.comp_def] using ho)
             have Hst:=Lib.hid hst
             obtain ⟨a9,c9,rfl,-,-⟩:=hst
             rw [List.length_map] at Hst ⊢
             exact ⟨a9,c9,rfl,Hst,Lib.hid hbw,(hbw.cell (p:=⟨b,_,none⟩) hB1).trans k3,(hbw.cell (p:=⟨b,_,none⟩) hB1).trans k4,(hbw.cell (p:=⟨b2,_,none⟩) hB2).trans m3,(hbw.cell (p:=⟨b2,_,none⟩) hB2).trans m4⟩
            have hsame:∀ (zs:List (List UInt8)) (az:Option Addr) (cz:Nat),StrsAt wr (Lo wB.heap.size) (.slice az zs.length cz) (zs.map qn)→zs.length≤20000000→∀ (W:World) (a9:Option Addr) (c9:Nat) (G:Nat→Prop),StrsAt W G (.slice a9 zs.length c9) (zs.map qn)→(∀ k,G k→k < W.heap.size)→Below wr.heap.size wr W→Calls Tryz.prog 15 #[.slice a9 zs.length c9,.slice az zs.length cz] W fun e w'=>e= .returned (.bool true)∧Hid (Below wr.heap.size wr w')∧
             w'.cell? ⟨b,o+i * 6+3,none⟩=some (.slice aL s.locals.length cL)∧w'.cell? ⟨b,o+i * 6+4,none⟩=some (.slice aC s.cells.length cC)∧w'.cell? ⟨b2,o2+i * 6+3,none⟩=some (.slice aL2 s.locals.length cL2)∧w'.cell? ⟨b2,o2+i * 6+4,none⟩=some (.slice aC2 s.cells.length cC2):=fun zs az cz hz hzl W a9 c9 G h9 hG9 hW=>by
             have hzW:StrsAt W (Lo wB.heap.size) (.slice az zs.length cz) (zs.map qn):=hz.mono (fun k o hk=>hW.cell (p:=⟨k,o,none⟩) (Nat.lt_of_lt_of_le hk hbB)) fun _ h=>h
             refine (sameTexts_any _ _ _ G _ h9 hzW hG9 (fun k hk=>Nat.lt_of_lt_of_le (Nat.lt_of_lt_of_le hk hbB) hW.size) (by rw [List.length_map];omega)).mono ?_
             rintro e w' ⟨rfl,hb⟩
             have hbw:=below_grow hW hW.size hb
             exact ⟨rfl,Lib.hid hbw,(hbw.cell (p:=⟨b,_,none⟩) hB1).trans k3,(hbw.cell (p:=⟨b,_,none⟩) hB1).trans k4,(hbw.cell (p:=⟨b2,_,none⟩) hB2).trans m3,(hbw.cell (p:=⟨b2,_,none⟩) hB2).trans m4⟩
            have HoL:=Lib.hid (hoth s.locals aL cL HL.out hl1 hk1);have HoC:=Lib.hid (hoth s.cells aC cC HC.out hl2 hk2)
            have HsL:=Lib.hid (hsame s.locals aL2 cL2 HL2.out hl1);have HsC:=Lib.hid (hsame s.cells aC2 cC2 HC2.out hl2)
            have HBr:=Lib.hid hB
            clear hoth hsame hk1 hk2 hs hB HL HC HL2 HC2
            go_upto_region 16 with fail
            go_cut [108] (fun q W=>q= .bool false∧Below wr.heap.size wr W)
            case first=>
             go_quiet (fail)
             go_wp2_with fail
             go_meet
             case rel=>exact ⟨rfl,m_drewN (Below.refl _ _) _⟩
            case rest=>
             obtain ⟨rfl,hW⟩:=hcut
             have n3:=(hW.cell (p:=⟨b,_,none⟩) hB1).trans k3
             have n4:=(hW.cell (p:=⟨b,_,none⟩) hB1).trans k4
             have o3:=(hW.cell (p:=⟨b2,_,none⟩) hB2).trans m3
             have o4:=(hW.cell (p:=⟨b2,_,none⟩) hB2).trans m4
             have HW:=Lib.hid hW
             clear hW
             go_upto_region 18 with fail
             go_cut [136] (fun q W=>q= .bool false∧Below wr.heap.size wr W)
             case first=>
              go_region_held3 (fun w'=>w'.cell? ⟨b,o+i * 6+3,none⟩=some (.slice aL s.locals.length cL)∧w'.cell? ⟨b,o+i * 6+4,none⟩=some (.slice aC s.cells.length cC)∧w'.cell? ⟨b2,o2+i * 6+3,none⟩=some (.slice aL2 s.locals.length cL2)∧w'.cell? ⟨b2,o2+i * 6+4,none⟩=some (.slice aC2 s.cells.length cC2))
               (go_keep)
               ((first
                 | (go_at_call 16;(with_reducible refine (HoL.out _ HW.out.drew).mono ?_);rintro _ w1 ⟨a1,c1,rfl,hx1,hb1,h3,h4,h5,h6⟩)
                 | (go_at_call 15;(with_reducible refine (HsL.out _ _ _ _ hx1.out (fun k hk=>hk.2) hb1.out).mono ?_);rintro _ w2 ⟨rfl,hb2,h3,h4,h5,h6⟩)
                 | (go_at_call 16;(with_reducible refine (HoC.out _ hb2.out).mono ?_);rintro _ w3 ⟨a3,c3,rfl,hx3,hb3,h3,h4,h5,h6⟩)
                 | (go_at_call 15;(with_reducible refine (HsC.out _ _ _ _ hx3.out (fun k hk=>hk.2) hb3.out).mono ?_);rintro _ w4 ⟨rfl,hb4,h3,h4,h5,h6⟩)))
              all_goals
               (go_wp2_with fail
                go_meet
                case rel=>exact ⟨rfl,hb4.out⟩)
             case rest=>
              obtain ⟨rfl,hW2⟩:=hcut
              have n5:=(hW2.cell (p:=⟨b,_,none⟩) hB1).trans k5
              have o5:=(hW2.cell (p:=⟨b2,_,none⟩) hB2).trans m5
              have HW2:=Lib.hid hW2
              clear hW2
              go_upto_region 20 with fail
              go_cut [149] (fun q W=>q= .bool false∧Below wr.heap.size wr W)
              case first=>
               go_quiet (fail)
               go_wp2_with fail
               go_meet
               case rel=>exact ⟨rfl,m_drewN HW2.out _⟩
              case rest=>
               obtain ⟨rfl,hW3⟩:=hcut
               have HN:=Lib.hid (HBr.out.trans (hW3.mono HBr.out.size))
               clear hW3
               go_wp2_with fail
               go_roundw
               case rel=>exact ⟨i+1,by omega,by go_num,HN.out⟩
               case measure=>simp [intOf];omega
          · have t1':decide ((i:Int) < (fr.length:Int))=false:=by simp;omega
            have HEnd:=Lib.hid (HBB.out.trans (hB.mono HBB.out.size))
            clear hB
            go_wp2_with fail
            refine bodyPost_ret (results_tmp rfl _ _ _) rfl ?_
            exact ⟨rfl,HEnd.out⟩
     · go_wp2_with fail
       refine bodyPost_ret (results_tmp rfl _ _ _) rfl ?_
       exact ⟨rfl,HB7.out⟩
   · go_wp2_with fail
     refine bodyPost_ret (results_tmp rfl _ _ _) rfl ?_
     exact ⟨rfl,HB7.out⟩
 · have t1:decide ((800:Int) < (stmsW l:Int))=true:=by rw [decide_eq_true_iff];omega
   have t2:decide (800 < stmsW l)=true:=by rw [decide_eq_true_iff];omega
   go_wp2_with fail
   refine Hwt.out.mono ?_
   rintro _ w2 ⟨rfl,hb2⟩
   have HE:=Lib.hid (Hb1.out.trans (hb2.mono Hb1.out.size))
   clear hb2 Hwt
   go_wp2_with fail
   refine bodyPost_ret (results_tmp rfl _ _ _) rfl ?_
   exact ⟨rfl,HE.out⟩
end Go.Proofs.YtdoaeapahgmfoaaGreatDoor

/- Joined texts. The first: verify: the instructions of memory. -/
import Derived.Test.YtfkbfjhocmbneaaGreatG7
import Derived.Test.YtfkbfjhocmbneaaGreatG4
set_option linter.all false
set_option linter.unusedVariables false
set_option linter.unusedSimpArgs false
set_option maxRecDepth 100000
set_option maxHeartbeats 4000000
namespace Go.Proofs.YtfkbfjhocmbneaaGreat
theorem k28{p:Prop}(h:p:=by
 have HB1:=Lib.hid hb1
 clear hb1 hbx hbi H1 H HM hlo HW hi hm
 go_enter Tryz.func187,Tryz.ntmps187
 exact k4):p:=h
theorem k40{p:Prop}(h:p:=by
 repeat refine pO ?_
 refine oO fun Kv hK=>?_
 go_simp
 refine HD.out.mono ?_
 rintro r w4 ⟨⟨v4,rfl⟩,hu4,hd4⟩
 have HU4:=Lib.hid ((Upd.refl K K W2).drew.trans hu4)
 have HD4:=Lib.hid hd4
 refine hK _ _ ⟨HS.out _ HU4.out,?_⟩
 clear hK Kv hu4 hd4
 refine wpMixO_done ?_
 go_wp2
 go_end0
 exact ⟨⟨_,rfl⟩,HU2.out.trans HU4.out,HD4.out⟩):p:=h
theorem k59{p:Prop}(h:p:=by
 have hM:=HM.old (hu.below H.hb (Nat.le_refl _) H.hK H.hK)
 obtain ⟨ad,h1,-,-,h2,-,h3,h4,-⟩:=hM.mth hj
 have h5:=hM.p j hj
 rw [heo] at h1
 cases h1
 rw [←hma,←hx] at h2 h3 h4
 rw [←hx] at h5
 exact ⟨h2,h3,h4,h5⟩):p:=h
theorem k96{p:Prop}(h:p:=by
 rintro r w4 ⟨⟨v4,rfl⟩,hu4,hd4⟩
 have HU4:=Lib.hid ((Upd.of HB2.out).trans hu4)
 exact k11):p:=h
section
open Go.RowKit
section
variable {w0 w:World}{K:Nat}{h:Hd}{m:Md}{lo:Option Addr}{lc:Nat}{ls:List Ty}{s:Ps}{so:Option Addr}{sc:Nat}{oo:Option Addr}{oc:Nat}{bs:List VB}{i:In3}{k:Nat}(hm:modV m=true)(hlo:∀ t∈ls,tyOk m t)(HW:stkOk m s.stk)(H:St w0 w K h m lo lc ls s so sc oo oc bs)(HM:ModAt w0 h m)(hd:s.opn.length≤6)(hi:OpdOk m k i)
include w0 w K h m lo lc ls s so sc oo oc bs i k hm hlo HW H HM hd hi
theorem m_17 (hop:i.op=17):
  Calls Tryz.prog 187 #[.pointer (some ⟨K,0,none⟩),.agg #[.int .i64 i.op,.int .i64 i.a,.int .i64 i.b]] w (DoPost w K h m lo lc ls oo oc bs (midV m ls i s)):=by
 obtain ⟨op,ia,ib⟩:=i
 dsimp only at hop
 subst hop
 have hb1:Below w.heap.size w ((w.alloc (.cells #[.pointer (some ⟨K,0,none⟩)] 148)).alloc (.cells #[.int .i64 17,.int .i64 ia,.int .i64 ib] 42)):=by exact bE
 have hbx:=(Blk.new w #[.pointer (some ⟨K,0,none⟩)] 148).alloc (.cells #[.int .i64 17,.int .i64 ia,.int .i64 ib] 42)
 have hbi:Blk ((w.alloc (.cells #[.pointer (some ⟨K,0,none⟩)] 148)).alloc (.cells #[.int .i64 17,.int .i64 ia,.int .i64 ib] 42)) (w.heap.size+1) #[.int .i64 17,.int .i64 ia,.int .i64 ib] 42:=Blk.new' (w:=w.alloc (.cells #[.pointer (some ⟨K,0,none⟩)] 148)) _ _ (by simp)
 have kl:=Blk.lt H.ck
 have H1:=H.old hb1
 have HD:=Lib.hid (do_mid (i:=⟨17,ia,ib⟩) HW H1 hd 1 1 224 #[.pointer (some ⟨w.heap.size,0,none⟩),.pointer (some ⟨w.heap.size+1,0,none⟩)] (cv11 (by simp)) (by decide) (by decide) (fun _ _=>rfl) (fun l hl hdr w1 to' tc hu hck hown=>by
  obtain ⟨a,rfl⟩:=one_of hl
  have ha:=HW.2 a (List.mem_of_mem_drop (by rw [hdr];simp))
  have hHM:∀ w',Upd K K w1 w'→ModAt w' h m:=fun w' hu'=>HM.old ((hu.trans hu').below H1.hb (Nat.le_refl _) H1.hK H1.hK)
  have hx1:=Blk.upd hbx hu (by omega) (by omega)
  have hi1:=Blk.upd hbi hu (by omega) (by omega)
  have hT:=H1.tl.upd hu H1.ck.noTy H1.ck.noTy
  refine (memory1_any K h m _ _ _ a 17 ia ib to' tc _ w.heap.size (w.heap.size+1) w1 hck hHM hx1 hi1 hown (hi.a0 (by simp)) (fun hk=>ty_cls ha (.inl hk))).mono ?_
  exact fun r w2 hp=>hp.imp fun out e' hq=>by obtain ⟨h1,h2⟩:=hq;rw [h1,h2];exact res_17 rfl))
 exact k28
theorem m_18 (hop:i.op=18):
  Calls Tryz.prog 187 #[.pointer (some ⟨K,0,none⟩),.agg #[.int .i64 i.op,.int .i64 i.a,.int .i64 i.b]] w (DoPost w K h m lo lc ls oo oc bs (midV m ls i s)):=by
 obtain ⟨op,ia,ib⟩:=i
 dsimp only at hop
 subst hop
 have hb1:Below w.heap.size w ((w.alloc (.cells #[.pointer (some ⟨K,0,none⟩)] 148)).alloc (.cells #[.int .i64 18,.int .i64 ia,.int .i64 ib] 42)):=by exact bE
 have hbx:=(Blk.new w #[.pointer (some ⟨K,0,none⟩)] 148).alloc (.cells #[.int .i64 18,.int .i64 ia,.int .i64 ib] 42)
 have hbi:Blk ((w.alloc (.cells #[.pointer (some ⟨K,0,none⟩)] 148)).alloc (.cells #[.int .i64 18,.int .i64 ia,.int .i64 ib] 42)) (w.heap.size+1) #[.int .i64 18,.int .i64 ia,.int .i64 ib] 42:=Blk.new' (w:=w.alloc (.cells #[.pointer (some ⟨K,0,none⟩)] 148)) _ _ (by simp)
 have kl:=Blk.lt H.ck
 have H1:=H.old hb1
 have HD:=Lib.hid (do_mid (i:=⟨18,ia,ib⟩) HW H1 hd 2 0 226 #[.pointer (some ⟨w.heap.size,0,none⟩),.pointer (some ⟨w.heap.size+1,0,none⟩)] (cv20 rfl) (by decide) (by decide) (fun _ _=>rfl) (fun l hl hdr w1 to' tc hu hck hown=>by
  obtain ⟨a,b,rfl⟩:=two_of hl
  have ha:=HW.2 a (List.mem_of_mem_drop (by rw [hdr];simp))
  have hb:=HW.2 b (List.mem_of_mem_drop (by rw [hdr];simp))
  have hHM:∀ w',Upd K K w1 w'→ModAt w' h m:=fun w' hu'=>HM.old ((hu.trans hu').below H1.hb (Nat.le_refl _) H1.hK H1.hK)
  have hx1:=Blk.upd hbx hu (by omega) (by omega)
  have hi1:=Blk.upd hbi hu (by omega) (by omega)
  have hT:=H1.tl.upd hu H1.ck.noTy H1.ck.noTy
  refine (memory2_any K h m _ _ _ a b 18 ia ib to' tc _ w.heap.size (w.heap.size+1) w1 hck hHM hx1 hi1 hown (hi.a0 (by simp)) (fun hk=>ty_cls ha (.inl hk))).mono ?_
  exact fun r w2 hp=>hp.imp fun out e' hq=>by obtain ⟨h1,h2⟩:=hq;rw [h1,h2];exact res_18 hm ha hb rfl))
 exact k28
theorem m_19 (hop:i.op=19):
  Calls Tryz.prog 187 #[.pointer (some ⟨K,0,none⟩),.agg #[.int .i64 i.op,.int .i64 i.a,.int .i64 i.b]] w (DoPost w K h m lo lc ls oo oc bs (midV m ls i s)):=by
 obtain ⟨op,ia,ib⟩:=i
 dsimp only at hop
 subst hop
 have hb1:Below w.heap.size w ((w.alloc (.cells #[.pointer (some ⟨K,0,none⟩)] 148)).alloc (.cells #[.int .i64 19,.int .i64 ia,.int .i64 ib] 42)):=by exact bE
 have hbx:=(Blk.new w #[.pointer (some ⟨K,0,none⟩)] 148).alloc (.cells #[.int .i64 19,.int .i64 ia,.int .i64 ib] 42)
 have hbi:Blk ((w.alloc (.cells #[.pointer (some ⟨K,0,none⟩)] 148)).alloc (.cells #[.int .i64 19,.int .i64 ia,.int .i64 ib] 42)) (w.heap.size+1) #[.int .i64 19,.int .i64 ia,.int .i64 ib] 42:=Blk.new' (w:=w.alloc (.cells #[.pointer (some ⟨K,0,none⟩)] 148)) _ _ (by simp)
 have kl:=Blk.lt H.ck
 have H1:=H.old hb1
 have HD:=Lib.hid (do_mid (i:=⟨19,ia,ib⟩) HW H1 hd 2 1 227 #[.pointer (some ⟨w.heap.size,0,none⟩)] (cv21 (by simp)) (by decide) (by decide) (fun _ _=>rfl) (fun l hl hdr w1 to' tc hu hck hown=>by
  obtain ⟨a,b,rfl⟩:=two_of hl
  have ha:=HW.2 a (List.mem_of_mem_drop (by rw [hdr];simp))
  have hb:=HW.2 b (List.mem_of_mem_drop (by rw [hdr];simp))
  have hHM:∀ w',Upd K K w1 w'→ModAt w' h m:=fun w' hu'=>HM.old ((hu.trans hu').below H1.hb (Nat.le_refl _) H1.hK H1.hK)
  have hx1:=Blk.upd hbx hu (by omega) (by omega)
  have hi1:=Blk.upd hbi hu (by omega) (by omega)
  have hT:=H1.tl.upd hu H1.ck.noTy H1.ck.noTy
  refine (memory3_any K h m _ _ _ a b 0 0 0 to' tc _ w.heap.size 0 w1 hck hx1 hown).mono ?_
  exact fun r w2 hp=>hp.imp fun out e' hq=>by obtain ⟨h1,h2⟩:=hq;rw [h1,h2];exact res_19 rfl))
 exact k28
theorem m_20 (hop:i.op=20):
  Calls Tryz.prog 187 #[.pointer (some ⟨K,0,none⟩),.agg #[.int .i64 i.op,.int .i64 i.a,.int .i64 i.b]] w (DoPost w K h m lo lc ls oo oc bs (midV m ls i s)):=by
 obtain ⟨op,ia,ib⟩:=i
 dsimp only at hop
 subst hop
 have hb1:Below w.heap.size w ((w.alloc (.cells #[.pointer (some ⟨K,0,none⟩)] 148)).alloc (.cells #[.int .i64 20,.int .i64 ia,.int .i64 ib] 42)):=by exact bE
 have hbx:=(Blk.new w #[.pointer (some ⟨K,0,none⟩)] 148).alloc (.cells #[.int .i64 20,.int .i64 ia,.int .i64 ib] 42)
 have hbi:Blk ((w.alloc (.cells #[.pointer (some ⟨K,0,none⟩)] 148)).alloc (.cells #[.int .i64 20,.int .i64 ia,.int .i64 ib] 42)) (w.heap.size+1) #[.int .i64 20,.int .i64 ia,.int .i64 ib] 42:=Blk.new' (w:=w.alloc (.cells #[.pointer (some ⟨K,0,none⟩)] 148)) _ _ (by simp)
 have kl:=Blk.lt H.ck
 have H1:=H.old hb1
 have HD:=Lib.hid (do_mid (i:=⟨20,ia,ib⟩) HW H1 hd 3 0 229 #[.pointer (some ⟨w.heap.size,0,none⟩)] (cv30 rfl) (by decide) (by decide) (fun _ _=>rfl) (fun l hl hdr w1 to' tc hu hck hown=>by
  obtain ⟨a,b,d,rfl⟩:=three_of hl
  have ha:=HW.2 a (List.mem_of_mem_drop (by rw [hdr];simp))
  have hb:=HW.2 b (List.mem_of_mem_drop (by rw [hdr];simp))
  have hd':=HW.2 d (List.mem_of_mem_drop (by rw [hdr];simp))
  have hHM:∀ w',Upd K K w1 w'→ModAt w' h m:=fun w' hu'=>HM.old ((hu.trans hu').below H1.hb (Nat.le_refl _) H1.hK H1.hK)
  have hx1:=Blk.upd hbx hu (by omega) (by omega)
  have hi1:=Blk.upd hbi hu (by omega) (by omega)
  have hT:=H1.tl.upd hu H1.ck.noTy H1.ck.noTy
  refine (memory4_any K h m _ _ _ a b d 0 0 0 to' tc _ w.heap.size 0 w1 hck hHM hx1 hown).mono ?_
  exact fun r w2 hp=>hp.imp fun out e' hq=>by obtain ⟨h1,h2⟩:=hq;rw [h1,h2];exact res_20 hm ha hd' rfl))
 exact k28
theorem m_21 (hop:i.op=21):
  Calls Tryz.prog 187 #[.pointer (some ⟨K,0,none⟩),.agg #[.int .i64 i.op,.int .i64 i.a,.int .i64 i.b]] w (DoPost w K h m lo lc ls oo oc bs (midV m ls i s)):=by
 obtain ⟨op,ia,ib⟩:=i
 dsimp only at hop
 subst hop
 have hb1:Below w.heap.size w ((w.alloc (.cells #[.pointer (some ⟨K,0,none⟩)] 148)).alloc (.cells #[.int .i64 21,.int .i64 ia,.int .i64 ib] 42)):=by exact bE
 have hbx:=(Blk.new w #[.pointer (some ⟨K,0,none⟩)] 148).alloc (.cells #[.int .i64 21,.int .i64 ia,.int .i64 ib] 42)
 have hbi:Blk ((w.alloc (.cells #[.pointer (some ⟨K,0,none⟩)] 148)).alloc (.cells #[.int .i64 21,.int .i64 ia,.int .i64 ib] 42)) (w.heap.size+1) #[.int .i64 21,.int .i64 ia,.int .i64 ib] 42:=Blk.new' (w:=w.alloc (.cells #[.pointer (some ⟨K,0,none⟩)] 148)) _ _ (by simp)
 have kl:=Blk.lt H.ck
 have H1:=H.old hb1
 have HD:=Lib.hid (do_mid (i:=⟨21,ia,ib⟩) HW H1 hd 1 1 230 #[.pointer (some ⟨w.heap.size,0,none⟩)] (cv11 (by simp)) (by decide) (by decide) (fun _ _=>rfl) (fun l hl hdr w1 to' tc hu hck hown=>by
  obtain ⟨a,rfl⟩:=one_of hl
  have ha:=HW.2 a (List.mem_of_mem_drop (by rw [hdr];simp))
  have hHM:∀ w',Upd K K w1 w'→ModAt w' h m:=fun w' hu'=>HM.old ((hu.trans hu').below H1.hb (Nat.le_refl _) H1.hK H1.hK)
  have hx1:=Blk.upd hbx hu (by omega) (by omega)
  have hi1:=Blk.upd hbi hu (by omega) (by omega)
  have hT:=H1.tl.upd hu H1.ck.noTy H1.ck.noTy
  refine (memory5_any K h m _ _ _ a 0 0 0 to' tc _ w.heap.size 0 w1 hck hx1 hown).mono ?_
  exact fun r w2 hp=>hp.imp fun out e' hq=>by obtain ⟨h1,h2⟩:=hq;rw [h1,h2];exact res_21 rfl))
 exact k28
theorem m_23 (hop:i.op=23):
  Calls Tryz.prog 187 #[.pointer (some ⟨K,0,none⟩),.agg #[.int .i64 i.op,.int .i64 i.a,.int .i64 i.b]] w (DoPost w K h m lo lc ls oo oc bs (midV m ls i s)):=by
 obtain ⟨op,ia,ib⟩:=i
 dsimp only at hop
 subst hop
 have hb1:Below w.heap.size w ((w.alloc (.cells #[.pointer (some ⟨K,0,none⟩)] 148)).alloc (.cells #[.int .i64 23,.int .i64 ia,.int .i64 ib] 42)):=by exact bE
 have hbx:=(Blk.new w #[.pointer (some ⟨K,0,none⟩)] 148).alloc (.cells #[.int .i64 23,.int .i64 ia,.int .i64 ib] 42)
 have hbi:Blk ((w.alloc (.cells #[.pointer (some ⟨K,0,none⟩)] 148)).alloc (.cells #[.int .i64 23,.int .i64 ia,.int .i64 ib] 42)) (w.heap.size+1) #[.int .i64 23,.int .i64 ia,.int .i64 ib] 42:=Blk.new' (w:=w.alloc (.cells #[.pointer (some ⟨K,0,none⟩)] 148)) _ _ (by simp)
 have kl:=Blk.lt H.ck
 have H1:=H.old hb1
 have HD:=Lib.hid (do_mid (i:=⟨23,ia,ib⟩) HW H1 hd 1 0 231 #[.pointer (some ⟨w.heap.size,0,none⟩),.pointer (some ⟨w.heap.size+1,0,none⟩)] (cv10 (by simp)) (by decide) (by decide) (fun _ _=>rfl) (fun l hl hdr w1 to' tc hu hck hown=>by
  obtain ⟨a,rfl⟩:=one_of hl
  have ha:=HW.2 a (List.mem_of_mem_drop (by rw [hdr];simp))
  have hHM:∀ w',Upd K K w1 w'→ModAt w' h m:=fun w' hu'=>HM.old ((hu.trans hu').below H1.hb (Nat.le_refl _) H1.hK H1.hK)
  have hx1:=Blk.upd hbx hu (by omega) (by omega)
  have hi1:=Blk.upd hbi hu (by omega) (by omega)
  have hT:=H1.tl.upd hu H1.ck.noTy H1.ck.noTy
  refine (memory6_any K h m _ _ _ a 23 ia ib to' tc _ w.heap.size (w.heap.size+1) w1 hck hHM hx1 hi1 hown (hi.a0 (by simp)) (hi.o22 (.inr rfl))).mono ?_
  exact fun r w2 hp=>hp.imp fun out e' hq=>by obtain ⟨h1,h2⟩:=hq;rw [h1,h2];exact res_23 hm ha rfl (hi.a0 (by simp)) (hi.o22 (.inr rfl))))
 exact k28
theorem m_24 (hop:i.op=24):
  Calls Tryz.prog 187 #[.pointer (some ⟨K,0,none⟩),.agg #[.int .i64 i.op,.int .i64 i.a,.int .i64 i.b]] w (DoPost w K h m lo lc ls oo oc bs (midV m ls i s)):=by
 obtain ⟨op,ia,ib⟩:=i
 dsimp only at hop
 subst hop
 have hb1:Below w.heap.size w ((w.alloc (.cells #[.pointer (some ⟨K,0,none⟩)] 148)).alloc (.cells #[.int .i64 24,.int .i64 ia,.int .i64 ib] 42)):=by exact bE
 have hbx:=(Blk.new w #[.pointer (some ⟨K,0,none⟩)] 148).alloc (.cells #[.int .i64 24,.int .i64 ia,.int .i64 ib] 42)
 have hbi:Blk ((w.alloc (.cells #[.pointer (some ⟨K,0,none⟩)] 148)).alloc (.cells #[.int .i64 24,.int .i64 ia,.int .i64 ib] 42)) (w.heap.size+1) #[.int .i64 24,.int .i64 ia,.int .i64 ib] 42:=Blk.new' (w:=w.alloc (.cells #[.pointer (some ⟨K,0,none⟩)] 148)) _ _ (by simp)
 have kl:=Blk.lt H.ck
 have H1:=H.old hb1
 have HD:=Lib.hid (do_mid (i:=⟨24,ia,ib⟩) HW H1 hd 1 1 232 #[.pointer (some ⟨w.heap.size+1,0,none⟩),.pointer (some ⟨w.heap.size,0,none⟩)] (cv11 (by simp)) (by decide) (by decide) (fun _ _=>rfl) (fun l hl hdr w1 to' tc hu hck hown=>by
  obtain ⟨a,rfl⟩:=one_of hl
  have ha:=HW.2 a (List.mem_of_mem_drop (by rw [hdr];simp))
  have hHM:∀ w',Upd K K w1 w'→ModAt w' h m:=fun w' hu'=>HM.old ((hu.trans hu').below H1.hb (Nat.le_refl _) H1.hK H1.hK)
  have hx1:=Blk.upd hbx hu (by omega) (by omega)
  have hi1:=Blk.upd hbi hu (by omega) (by omega)
  have hT:=H1.tl.upd hu H1.ck.noTy H1.ck.noTy
  by_cases hk:a.k=2
  ·by_cases hf:fitG m a ⟨2,ia⟩=true
   ·refine (cast_b K h m _ _ _ a 24 ia ib to' tc _ w.heap.size (w.heap.size+1) w1 hck hHM hx1 hi1 hown hk hf).mono ?_
    exact fun r w2 hp=>hp.imp fun out e' hq=>by obtain ⟨h1,h2⟩:=hq;rw [h1];exact res_24 hm ha rfl (hi.a0 (by simp)) (hi.o14 (.inr rfl)) (by rw [h2,if_pos hk,if_pos hf])
   ·refine (cast_c K h m _ _ _ a 24 ia ib to' tc _ w.heap.size (w.heap.size+1) w1 hck hHM hx1 hi1 hown hk (by simpa using hf)).mono ?_
    exact fun r w2 hp=>hp.imp fun out e' hq=>by obtain ⟨h1,h2⟩:=hq;rw [h1];exact res_24 hm ha rfl (hi.a0 (by simp)) (hi.o14 (.inr rfl)) (by rw [h2,if_pos hk,if_neg hf])
  ·refine (cast_a K h m _ _ _ a 24 ia ib to' tc _ w.heap.size (w.heap.size+1) w1 hck hHM hx1 hi1 hown hk).mono ?_
   exact fun r w2 hp=>hp.imp fun out e' hq=>by obtain ⟨h1,h2⟩:=hq;rw [h1];exact res_24 hm ha rfl (hi.a0 (by simp)) (hi.o14 (.inr rfl)) (by rw [h2,if_neg hk])))
 exact k28
theorem m_14 (hop:i.op=14):
  Calls Tryz.prog 187 #[.pointer (some ⟨K,0,none⟩),.agg #[.int .i64 i.op,.int .i64 i.a,.int .i64 i.b]] w (DoPost w K h m lo lc ls oo oc bs (midV m ls i s)):=by
 obtain ⟨op,ia,ib⟩:=i
 dsimp only at hop
 subst hop
 have hb1:Below w.heap.size w ((w.alloc (.cells #[.pointer (some ⟨K,0,none⟩)] 148)).alloc (.cells #[.int .i64 14,.int .i64 ia,.int .i64 ib] 42)):=by exact bE
 have hbx:=(Blk.new w #[.pointer (some ⟨K,0,none⟩)] 148).alloc (.cells #[.int .i64 14,.int .i64 ia,.int .i64 ib] 42)
 have hbi:Blk ((w.alloc (.cells #[.pointer (some ⟨K,0,none⟩)] 148)).alloc (.cells #[.int .i64 14,.int .i64 ia,.int .i64 ib] 42)) (w.heap.size+1) #[.int .i64 14,.int .i64 ia,.int .i64 ib] 42:=Blk.new' (w:=w.alloc (.cells #[.pointer (some ⟨K,0,none⟩)] 148)) _ _ (by simp)
 have kl:=Blk.lt H.ck
 have H1:=H.old hb1
 have HB1:=Lib.hid hb1
 have HH:=Lib.hid H1
 have cc:=hbx.cell 0 (v:=.pointer (some ⟨K,0,none⟩)) rfl
 have i1:=hbi.cell 1 (v:=.int .i64 ia) rfl
 have hS:∀ w',Upd K K ((w.alloc (.cells #[.pointer (some ⟨K,0,none⟩)] 148)).alloc (.cells #[.int .i64 14,.int .i64 ia,.int .i64 ib] 42)) w'→(∃ L S O e,Ck w' K h m L S O e)→(fun w':World=>w'.cell? ⟨w.heap.size,0,none⟩=some (.pointer (some ⟨K,0,none⟩))∧w'.cell? ⟨w.heap.size+1,1,none⟩=some (.int .i64 ia)) w':=fun w' hu hc=>⟨hu.cell cc (by show w.heap.size≠K;omega) (by show w.heap.size≠K;omega),hu.cell i1 (by show w.heap.size+1≠K;omega) (by show w.heap.size+1≠K;omega)⟩
 have HS:=Lib.hid hS
 have HHM:=Lib.hid HM
 obtain ⟨W1,hW1⟩:∃ W1,W1=((w.alloc (.cells #[.pointer (some ⟨K,0,none⟩)] 148)).alloc (.cells #[.int .i64 14,.int .i64 ia,.int .i64 ib] 42)):=⟨_,rfl⟩
 rw [←hW1] at HS HH HB1
 have HW1:=Lib.hid hW1
 have HHW:=Lib.hid HW
 have HI:=Lib.hid hi
 have HHm:=Lib.hid hm
 have HLo:=Lib.hid hlo
 clear hb1 hbx hbi H1 H HM hlo HW hi hm cc i1 hS hW1
 go_enter Tryz.func187,Tryz.ntmps187
 go_wp2_with fail
 refine rO (fun w':World=>w'.cell? ⟨w.heap.size,0,none⟩=some (.pointer (some ⟨K,0,none⟩))∧w'.cell? ⟨w.heap.size+1,1,none⟩=some (.int .i64 ia)) (oL [0,1,2,103,104]) (HW1.out▸HS.out _ (Upd.refl K K W1).drew ⟨_,_,_,_,Ck.drew HH.out.ck⟩) ?_
 rw [←HW1.out]
 have HB2:=Lib.hid (show Below W1.heap.size W1 W1.drew by exact bE)
 repeat refine pO ?_
 refine oO fun Kv hK=>?_
 go_simp
 refine (object_any _ _).mono ?_
 rintro r w3 ⟨rfl,hb3⟩
 have HB3:=Lib.hid (bthen HB2.out hb3)
 refine hK _ _ ⟨HS.out _ (Upd.of HB3.out) ⟨_,_,_,_,HH.out.ck.old HB3.out⟩,?_⟩
 clear hK Kv hb3
 repeat refine pO ?_
 refine oO fun Kv hK=>?_
 go_simp
 refine (push_mid (i:=⟨14,ia,ib⟩) HHW.out (HH.out.old HB3.out) hd (⟨2,ia⟩) (cv01 (by simp)) (pv14 rfl)).mono ?_
 exact k68
theorem m_15 (hop:i.op=15):
  Calls Tryz.prog 187 #[.pointer (some ⟨K,0,none⟩),.agg #[.int .i64 i.op,.int .i64 i.a,.int .i64 i.b]] w (DoPost w K h m lo lc ls oo oc bs (midV m ls i s)):=by
 obtain ⟨op,ia,ib⟩:=i
 dsimp only at hop
 subst hop
 have hb1:Below w.heap.size w ((w.alloc (.cells #[.pointer (some ⟨K,0,none⟩)] 148)).alloc (.cells #[.int .i64 15,.int .i64 ia,.int .i64 ib] 42)):=by exact bE
 have hbx:=(Blk.new w #[.pointer (some ⟨K,0,none⟩)] 148).alloc (.cells #[.int .i64 15,.int .i64 ia,.int .i64 ib] 42)
 have hbi:Blk ((w.alloc (.cells #[.pointer (some ⟨K,0,none⟩)] 148)).alloc (.cells #[.int .i64 15,.int .i64 ia,.int .i64 ib] 42)) (w.heap.size+1) #[.int .i64 15,.int .i64 ia,.int .i64 ib] 42:=Blk.new' (w:=w.alloc (.cells #[.pointer (some ⟨K,0,none⟩)] 148)) _ _ (by simp)
 have kl:=Blk.lt H.ck
 have H1:=H.old hb1
 have HB1:=Lib.hid hb1
 have HH:=Lib.hid H1
 have cc:=hbx.cell 0 (v:=.pointer (some ⟨K,0,none⟩)) rfl
 have i1:=hbi.cell 1 (v:=.int .i64 ia) rfl
 have hS:∀ w',Upd K K ((w.alloc (.cells #[.pointer (some ⟨K,0,none⟩)] 148)).alloc (.cells #[.int .i64 15,.int .i64 ia,.int .i64 ib] 42)) w'→(∃ L S O e,Ck w' K h m L S O e)→(fun w':World=>w'.cell? ⟨w.heap.size,0,none⟩=some (.pointer (some ⟨K,0,none⟩))) w':=fun w' hu hc=>hu.cell cc (by show w.heap.size≠K;omega) (by show w.heap.size≠K;omega)
 have HS:=Lib.hid hS
 have HHM:=Lib.hid HM
 obtain ⟨W1,hW1⟩:∃ W1,W1=((w.alloc (.cells #[.pointer (some ⟨K,0,none⟩)] 148)).alloc (.cells #[.int .i64 15,.int .i64 ia,.int .i64 ib] 42)):=⟨_,rfl⟩
 rw [←hW1] at HS HH HB1
 have HW1:=Lib.hid hW1
 have HHW:=Lib.hid HW
 have HI:=Lib.hid hi
 have HHm:=Lib.hid hm
 have HLo:=Lib.hid hlo
 clear hb1 hbx hbi H1 H HM hlo HW hi hm cc i1 hS hW1
 go_enter Tryz.func187,Tryz.ntmps187
 go_wp2_with fail
 refine rO (fun w':World=>w'.cell? ⟨w.heap.size,0,none⟩=some (.pointer (some ⟨K,0,none⟩))) (oL [0,101,102]) (HW1.out▸HS.out _ (Upd.refl K K W1).drew ⟨_,_,_,_,Ck.drew HH.out.ck⟩) ?_
 rw [←HW1.out]
 have HB2:=Lib.hid (show Below W1.heap.size W1 W1.drew by exact bE)
 repeat refine pO ?_
 refine oO fun Kv hK=>?_
 go_simp
 refine (numbers_any _).mono ?_
 rintro r w3 ⟨rfl,hb3⟩
 have HB3:=Lib.hid (bthen HB2.out hb3)
 refine hK _ _ ⟨HS.out _ (Upd.of HB3.out) ⟨_,_,_,_,HH.out.ck.old HB3.out⟩,?_⟩
 clear hK Kv hb3
 repeat refine pO ?_
 refine oO fun Kv hK=>?_
 go_simp
 refine (push_mid (i:=⟨15,ia,ib⟩) HHW.out (HH.out.old HB3.out) hd (⟨3,0⟩) (cv01 (by simp)) (pv15 rfl)).mono ?_
 exact k68
theorem m_16 (hop:i.op=16):
  Calls Tryz.prog 187 #[.pointer (some ⟨K,0,none⟩),.agg #[.int .i64 i.op,.int .i64 i.a,.int .i64 i.b]] w (DoPost w K h m lo lc ls oo oc bs (midV m ls i s)):=by
 obtain ⟨op,ia,ib⟩:=i
 dsimp only at hop
 subst hop
 have hb1:Below w.heap.size w ((w.alloc (.cells #[.pointer (some ⟨K,0,none⟩)] 148)).alloc (.cells #[.int .i64 16,.int .i64 ia,.int .i64 ib] 42)):=by exact bE
 have hbx:=(Blk.new w #[.pointer (some ⟨K,0,none⟩)] 148).alloc (.cells #[.int .i64 16,.int .i64 ia,.int .i64 ib] 42)
 have hbi:Blk ((w.alloc (.cells #[.pointer (some ⟨K,0,none⟩)] 148)).alloc (.cells #[.int .i64 16,.int .i64 ia,.int .i64 ib] 42)) (w.heap.size+1) #[.int .i64 16,.int .i64 ia,.int .i64 ib] 42:=Blk.new' (w:=w.alloc (.cells #[.pointer (some ⟨K,0,none⟩)] 148)) _ _ (by simp)
 have kl:=Blk.lt H.ck
 have H1:=H.old hb1
 have HD:=Lib.hid (push_mid (i:=⟨16,ia,ib⟩) HW H1 hd ⟨4,ib⟩ (cv01 (by simp)) (pv16 rfl))
 have HB1:=Lib.hid hb1
 clear hb1 hbx hbi H1 H HM hlo HW hi hm
 go_enter Tryz.func187,Tryz.ntmps187
 exact k60
theorem m_22 (hop:i.op=22):
  Calls Tryz.prog 187 #[.pointer (some ⟨K,0,none⟩),.agg #[.int .i64 i.op,.int .i64 i.a,.int .i64 i.b]] w (DoPost w K h m lo lc ls oo oc bs (midV m ls i s)):=by
 obtain ⟨op,ia,ib⟩:=i
 dsimp only at hop
 subst hop
 have ha0:=hi.a0 (by simp)
 dsimp only at ha0
 obtain ⟨ia,rfl⟩:∃ d:Nat,ia=d:=⟨ia.toNat,by omega⟩
 have hb1:Below w.heap.size w ((w.alloc (.cells #[.pointer (some ⟨K,0,none⟩)] 148)).alloc (.cells #[.int .i64 22,.int .i64 ia,.int .i64 ib] 42)):=by exact bE
 have hbx:=(Blk.new w #[.pointer (some ⟨K,0,none⟩)] 148).alloc (.cells #[.int .i64 22,.int .i64 ia,.int .i64 ib] 42)
 have hbi:Blk ((w.alloc (.cells #[.pointer (some ⟨K,0,none⟩)] 148)).alloc (.cells #[.int .i64 22,.int .i64 ia,.int .i64 ib] 42)) (w.heap.size+1) #[.int .i64 22,.int .i64 ia,.int .i64 ib] 42:=Blk.new' (w:=w.alloc (.cells #[.pointer (some ⟨K,0,none⟩)] 148)) _ _ (by simp)
 have kl:=Blk.lt H.ck
 have H1:=H.old hb1
 have hin:=hi.o22 (.inl rfl)
 dsimp only at hin
 have hi':ia<m.st.length:=by omega
 have hMo:∀ w',Upd K K ((w.alloc (.cells #[.pointer (some ⟨K,0,none⟩)] 148)).alloc (.cells #[.int .i64 22,.int .i64 ia,.int .i64 ib] 42)) w'→ModAt w' h m:=fun w' hu'=>HM.old (hu'.below H1.hb (Nat.le_refl _) H1.hK H1.hK)
 obtain ⟨⟨uk,uc⟩,hlu⟩:∃ x:Ty,x=m.st.getD ia default:=⟨_,rfl⟩
 obtain ⟨sa,hso,-,-⟩:=row_ty (hMo _ (Upd.refl K K _)).st hi'
 have hst:∀ w',Upd K K ((w.alloc (.cells #[.pointer (some ⟨K,0,none⟩)] 148)).alloc (.cells #[.int .i64 22,.int .i64 ia,.int .i64 ib] 42)) w'→w'.cell? (sa.add (ia*2))=some (.int .i64 uk)∧w'.cell? ⟨(sa.add (ia*2)).block,(sa.add (ia*2)).off+1,none⟩=some (.int .i64 uc):=fun w' hu=>by
  obtain ⟨ad,h1,h2,h3⟩:=row_ty (hMo w' hu).st hi'
  rw [hso] at h1
  cases h1
  rw [←hlu] at h2 h3
  exact ⟨h2,h3⟩
 have hk1:∀ w',(∃ L S O e,Ck w' K h m L S O e)→w'.cell? ⟨K,1,none⟩=some (.slice (some sa) m.st.length h.sc):=fun w' hc=>by
  obtain ⟨L,S,O,e,hc⟩:=hc
  have:=hc.cells.2.2.1
  rwa [hso] at this
 have HLu:=Lib.hid hlu
 clear hMo hlu
 have HB1:=Lib.hid hb1
 have HH:=Lib.hid H1
 have cc:=hbx.cell 0 (v:=.pointer (some ⟨K,0,none⟩)) rfl
 have i1:=hbi.cell 1 (v:=.int .i64 ia) rfl
 have hS:∀ w',Upd K K ((w.alloc (.cells #[.pointer (some ⟨K,0,none⟩)] 148)).alloc (.cells #[.int .i64 22,.int .i64 ia,.int .i64 ib] 42)) w'→(∃ L S O e,Ck w' K h m L S O e)→(fun w':World=>w'.cell? ⟨w.heap.size,0,none⟩=some (.pointer (some ⟨K,0,none⟩))∧w'.cell? ⟨w.heap.size+1,1,none⟩=some (.int .i64 ia)∧w'.cell? ⟨K,1,none⟩=some (.slice (some sa) m.st.length h.sc)∧w'.cell? (sa.add (ia*2))=some (.int .i64 uk)∧w'.cell? ⟨(sa.add (ia*2)).block,(sa.add (ia*2)).off+1,none⟩=some (.int .i64 uc)) w':=fun w' hu hc=>⟨hu.cell cc (by show w.heap.size≠K;omega) (by show w.heap.size≠K;omega),hu.cell i1 (by show w.heap.size+1≠K;omega) (by show w.heap.size+1≠K;omega),hk1 w' hc,(hst w' hu).1,(hst w' hu).2⟩
 have HS:=Lib.hid hS
 have HHM:=Lib.hid HM
 obtain ⟨W1,hW1⟩:∃ W1,W1=((w.alloc (.cells #[.pointer (some ⟨K,0,none⟩)] 148)).alloc (.cells #[.int .i64 22,.int .i64 ia,.int .i64 ib] 42)):=⟨_,rfl⟩
 rw [←hW1] at HS HH HB1
 have HW1:=Lib.hid hW1
 have HHW:=Lib.hid HW
 have HI:=Lib.hid hi
 have HHm:=Lib.hid hm
 have HLo:=Lib.hid hlo
 clear hb1 hbx hbi H1 H HM hlo HW hi hm cc i1 hS hW1 hst hk1 hso
 go_enter Tryz.func187,Tryz.ntmps187
 go_wp2_with fail
 refine rO (fun w':World=>w'.cell? ⟨w.heap.size,0,none⟩=some (.pointer (some ⟨K,0,none⟩))∧w'.cell? ⟨w.heap.size+1,1,none⟩=some (.int .i64 ia)∧w'.cell? ⟨K,1,none⟩=some (.slice (some sa) m.st.length h.sc)∧w'.cell? (sa.add (ia*2))=some (.int .i64 uk)∧w'.cell? ⟨(sa.add (ia*2)).block,(sa.add (ia*2)).off+1,none⟩=some (.int .i64 uc)) (oL [0,1,2,3,4,5,6,7,8,9,110]) (HW1.out▸HS.out _ (Upd.refl K K W1).drew ⟨_,_,_,_,Ck.drew HH.out.ck⟩) ?_
 rw [←HW1.out]
 have HB2:=Lib.hid (show Below W1.heap.size W1 W1.drew by exact bE)
 repeat refine pO ?_
 refine oO fun Kv hK=>?_
 go_simp
 refine (push_mid (i:=⟨22,ia,ib⟩) HHW.out (HH.out.old HB2.out) hd (⟨uk,uc⟩) (cv01 (by simp)) (by rw [pv22 rfl,HLu.out];rfl)).mono ?_
 exact k96
theorem m_else (hb:baseV s.opn≤s.stk.length) (hop:i.op=0∨i.op=28):
  Calls Tryz.prog 187 #[.pointer (some ⟨K,0,none⟩),.agg #[.int .i64 i.op,.int .i64 i.a,.int .i64 i.b]] w (DoPost w K h m lo lc ls oo oc bs (midV m ls i s)):=by
 have hl:=HW.1
 have hm2:midV m ls i s=(0,s.stk):=by
  unfold midV
  rw [cvx (by omega),pvx (by omega),if_neg (by dsimp only;omega)]
  simp
 obtain ⟨op,ia,ib⟩:=i
 have HM2:=Lib.hid hm2
 have HH:=Lib.hid H
 clear hm2 H HM hlo HW hi hm
 dsimp only at hop
 rcases hop with rfl|rfl
 all_goals
  go_enter Tryz.func187,Tryz.ntmps187
  go_wp2_with fail
  go_end0
  refine DoPost.bel ⟨⟨_,rfl⟩,Upd.refl K K _,?_⟩ bE
  rw [HM2.out]
  exact ⟨so,sc,s.stk,HH.out.ck.old bE,(HH.out.old bE).ts,by omega,fun _=>rfl⟩
end
end
section
open Go.RowKit
theorem resL_length (r:Ty):(resL r).length=if r.k=0 then 0 else 1:=by unfold resL;split<;>rfl
section
variable {w0 w:World}{K:Nat}{h:Hd}{m:Md}{lo:Option Addr}{lc:Nat}{ls:List Ty}{s:Ps}{so:Option Addr}{sc:Nat}{oo:Option Addr}{oc:Nat}{bs:List VB}{i:In3}(hm:modV m=true)(HW:stkOk m s.stk)(H:St w0 w K h m lo lc ls s so sc oo oc bs)(HM:ModAt w0 h m)(hd:s.opn.length≤6){j:Nat}(hj:j<m.me.length){ea:Addr}(heo:h.eo=some ea)
include w0 w K h m lo lc ls s so sc oo oc bs i hm HW H HM hd j hj ea heo
theorem call_25 (hop:i.op=25) (hji:j=i.a.toNat):
  Calls Tryz.prog 233 #[.pointer (some ⟨K,0,none⟩),.pointer (some (ea.add (j*7))),.int .i64 (-1)] w (DoPost w K h m lo lc ls oo oc bs (midV m ls i s)):=by
 obtain ⟨x,hx⟩:∃ x,x=m.me.getD j default:=⟨_,rfl⟩
 obtain ⟨ma,hma⟩:∃ a,a=ea.add (j*7):=⟨_,rfl⟩
 have hmt:=mth_ok hm hj
 rw [←hma]
 have hpl:x.p.length≤4:=by rw [hx];exact hmt.z.1
 have hpt:∀ t∈x.p,tyOk m t:=by rw [hx];exact hmt.p
 have hmc:∀ w',Upd K K w w'→w'.cell? ⟨ma.block,ma.off+2,none⟩=some (.slice (h.e j).po x.p.length (h.e j).pc)∧w'.cell? ⟨ma.block,ma.off+4,none⟩=some (.int .i64 x.r.k)∧w'.cell? ⟨ma.block,ma.off+5,none⟩=some (.int .i64 x.r.c)∧RowAt w' (h.e j).po (h.e j).pc x.p:=fun w' hu=>by
  exact k59
 have hHM:∀ w',Upd K K w w'→ModAt w' h m:=fun w' hu=>HM.old (hu.below H.hb (Nat.le_refl _) H.hK H.hK)
 have kl:=Blk.lt H.ck
 obtain ⟨W1,hW1⟩:∃ W1,W1=((((w.alloc (.cells #[.pointer (some ⟨K,0,none⟩)] 148)).alloc (.cells #[.pointer (some ma)] 152)).alloc (.cells #[.int .i64 (-1)] 3)).alloc (.cells #[.int .i64 0] 3)):=⟨_,rfl⟩
 have hb1:Below w.heap.size w W1:=by rw [hW1];exact bE
 have hz1:W1.heap.size=w.heap.size+4:=by rw [hW1];simp
 have b0:Blk W1 w.heap.size #[.pointer (some ⟨K,0,none⟩)] 148:=by rw [hW1];exact (((Blk.new w _ _).alloc _).alloc _).alloc _
 have b1:Blk W1 (w.heap.size+1) #[.pointer (some ma)] 152:=by rw [hW1];exact ((Blk.new' (w:=w.alloc (.cells #[.pointer (some ⟨K,0,none⟩)] 148)) _ _ (by simp)).alloc _).alloc _
 have b2:Blk W1 (w.heap.size+2) #[.int .i64 (-1)] 3:=by rw [hW1];exact (Blk.new' (w:=(w.alloc (.cells #[.pointer (some ⟨K,0,none⟩)] 148)).alloc (.cells #[.pointer (some ma)] 152)) _ _ (by simp)).alloc _
 have b3:Blk W1 (w.heap.size+3) #[.int .i64 0] 3:=by rw [hW1];exact Blk.new' (w:=((w.alloc (.cells #[.pointer (some ⟨K,0,none⟩)] 148)).alloc (.cells #[.pointer (some ma)] 152)).alloc (.cells #[.int .i64 (-1)] 3)) _ _ (by simp)
 have HB:=Lib.hid (And.intro b0 (And.intro b1 (And.intro b2 b3)))
 have m1:=(hmc W1 (Upd.of hb1))
 obtain ⟨m2,m4,m5,-⟩:=m1
 have HMc:=Lib.hid hmc
 have HHM:=Lib.hid hHM
 have HH:=Lib.hid (H.old hb1)
 have HB1:=Lib.hid hb1
 have HX:=Lib.hid hx
 have HW1:=Lib.hid hW1
 have HPt:=Lib.hid hpt
 have HNo:=Lib.hid H.ck.noTy
 have HHW:=Lib.hid HW
 have c1:=b1.cell 0 (v:=.pointer (some ma)) rfl
 have c2:=b2.cell 0 (v:=.int .i64 (-1)) rfl
 obtain ⟨rk,hrk⟩:∃ k,k=x.r.k:=⟨_,rfl⟩
 obtain ⟨rq,hrq⟩:∃ k,k=x.r.c:=⟨_,rfl⟩
 have hxr:x.r=⟨rk,rq⟩:=by rw [hrk,hrq]
 rw [←hrk] at m4
 rw [←hrq] at m5
 have HR:=Lib.hid hxr
 obtain ⟨np,hnp⟩:∃ n,n=x.p.length:=⟨_,rfl⟩
 rw [←hnp] at m2
 have HN:=Lib.hid hnp
 have hpl2:np≤4:=by omega
 obtain ⟨tk,htk⟩:∃ t,t=np:=⟨_,rfl⟩
 have HTk:=Lib.hid htk
 clear htk
 clear hx hmt hmc hHM H HM HW hb1 hW1 hpt b0 b1 b2 b3 hma hrk hrq hxr hnp hpl
 go_enter Tryz.func233,Tryz.ntmps233
 go_upto_region 4 with fail
 rw [←HW1.out]
 go_wp2_with (go_at_call 132;refine (results_any ⟨rk,rq⟩ _).mono ?_;rintro r w1 ⟨ro,rc,rfl,hrl,-,hb2⟩;have HRl:=Lib.hid hrl;have HB2:=Lib.hid hb2;clear hrl hb2)
 obtain ⟨nr,hnr⟩:∃ n,n=(resL (⟨rk,rq⟩:Ty)).length:=⟨_,rfl⟩
 rw [←hnr]
 have HNr:=Lib.hid hnr
 clear hnr m2 m4 m5 c1 c2
 have b4:=Blk.new w1 #[.slice ro nr rc] 23
 have hb3:Below W1.heap.size W1 (w1.alloc (.cells #[.slice ro nr rc] 23)):=bal HB2.out _
 have hz2:=HB2.out.size
 obtain ⟨W2,hW2⟩:∃ W2,W2=w1.alloc (.cells #[.slice ro nr rc] 23):=⟨_,rfl⟩
 rw [←hW2] at b4 hb3 ⊢
 have HRl2:=Lib.hid (show TyAt W2 ro rc (resL ⟨rk,rq⟩) from by
  have h0:=HRl.out
  rw [hW2]
  exact h0.upd (K:=K) (B:=K) (Upd.of bE) ⟨by have:=HB1.out.size;omega,fun xs z hx=>by
   have hk:=(Ck.old HH.out.ck HB2.out)
   rw [show w1.heap[K]?=_ from hk] at hx
   cases hx⟩ ⟨by have:=HB1.out.size;omega,fun xs z hx=>by
   have hk:=(Ck.old HH.out.ck HB2.out)
   rw [show w1.heap[K]?=_ from hk] at hx
   cases hx⟩)
 have HB3:=Lib.hid hb3
 have HB4:=Lib.hid b4
 have hU2:=(Upd.of (K:=K) (B:=K) HB1.out).bel HB3.out
 have HU2:=Lib.hid hU2
 have s0:=(HB.out.1.old HB3.out).cell 0 (v:=.pointer (some ⟨K,0,none⟩)) rfl
 have s1:=(HB.out.2.1.old HB3.out).cell 0 (v:=.pointer (some ma)) rfl
 have s3:=(HB.out.2.2.2.old HB3.out).cell 0 (v:=.int .i64 0) rfl
 have s4:=b4.cell 0 (v:=.slice ro nr rc) rfl
 have hS:∀ w',Upd K K W2 w'→(fun w':World=>w'.cell? ⟨w.heap.size,0,none⟩=some (.pointer (some ⟨K,0,none⟩))∧w'.cell? ⟨w.heap.size+1,0,none⟩=some (.pointer (some ma))∧w'.cell? ⟨w.heap.size+3,0,none⟩=some (.int .i64 0)∧w'.cell? ⟨w1.heap.size,0,none⟩=some (.slice ro nr rc)∧w'.cell? ⟨ma.block,ma.off+2,none⟩=some (.slice (h.e j).po np (h.e j).pc)) w':=fun w' hu=>⟨hu.cell s0 (by show w.heap.size≠K;omega) (by show w.heap.size≠K;omega),hu.cell s1 (by show w.heap.size+1≠K;omega) (by show w.heap.size+1≠K;omega),hu.cell s3 (by show w.heap.size+3≠K;omega) (by show w.heap.size+3≠K;omega),hu.cell s4 (by show w1.heap.size≠K;omega) (by show w1.heap.size≠K;omega),by rw [HN.out];exact (HMc.out _ (HU2.out.trans hu)).1⟩
 have HS:=Lib.hid hS
 have HD:=Lib.hid (show Calls Tryz.prog 171 #[.pointer (some ⟨K,0,none⟩),.int .i64 tk,.int .i64 nr,.func (Fn.func 249) #[] #[.pointer (some ⟨w.heap.size+2,0,none⟩),.pointer (some ⟨w.heap.size,0,none⟩),.pointer (some ⟨w.heap.size+1,0,none⟩),.pointer (some ⟨w.heap.size+3,0,none⟩),.pointer (some ⟨w1.heap.size,0,none⟩)]] W2.drew (DoPost W2.drew K h m lo lc ls oo oc bs (midV m ls i s)) from
  do_mid HHW.out ((HH.out.old HB3.out).old bE) hd tk nr 249 _ (by rw [cv25 hop,←hji,←HX.out,←HN.out,HNr.out,resL_length,←HR.out,HTk.out]) (by have:=HTk.out;omega) (by rw [HNr.out];have:=resL_len ⟨rk,rq⟩;omega) (fun _ _=>rfl) (fun l hl hdr w3 to' tc hu hck hown=>by
   have hu':Upd K K W2 w3:=(Upd.refl K K W2).drew.trans hu
   have huw:=HU2.out.trans hu'
   have hlt:∀ t∈l,tyOk m t:=fun t ht=>HHW.out.2 t (List.mem_of_mem_drop (by rw [hdr];exact ht))
   have hsb:=(HB.out.2.2.1.old HB3.out).upd hu' (by omega) (by omega)
   have hcb:=(HB.out.1.old HB3.out).upd hu' (by omega) (by omega)
   have hmb:=(HB.out.2.1.old HB3.out).upd hu' (by omega) (by omega)
   have hvb:=(HB.out.2.2.2.old HB3.out).upd hu' (by omega) (by omega)
   have hob:=HB4.out.upd hu' (by omega) (by omega)
   have hrl:=HRl2.out.upd hu' (Ck.noTy (HH.out.ck.old HB3.out)) (Ck.noTy (HH.out.ck.old HB3.out))
   rw [HNr.out] at hob
   have hlen:l.length=0+x.p.length:=by rw [hl];have:=HTk.out;have:=HN.out;omega
   have hown':=hown
   rw [←hl] at hown' ⊢
   refine (call1_none K h m _ _ _ l x.p (h.e j).po (h.e j).pc ma (-1) 0 ro rc (resL ⟨rk,rq⟩) (w.heap.size+2) w.heap.size (w.heap.size+1) (w.heap.size+3) w1.heap.size to' tc _ w3 hck (fun w' hu2=>HHM.out w' (huw.trans hu2)) hsb hcb hmb hvb hob hrl (fun w' hu2=>⟨(HMc.out w' (huw.trans hu2)).1,(HMc.out w' (huw.trans hu2)).2.2.2⟩) hown' hlen (by have:=HN.out;omega) (by decide) (by decide)).mono ?_
   exact fun r w2 hp=>hp.imp fun out e' hq=>by obtain ⟨h1,h2⟩:=hq;rw [h1,h2,HNr.out,resL_length];have hr:=res_25 (ls:=ls) hm hop (x:=x) (by rw [HX.out,hji]) (by rw [hlen,Nat.zero_add]) hlt HPt.out;rw [HR.out] at hr;exact hr))
 clear b4 hb3 hW2 hU2 s0 s1 s3 s4 hS
 have htk:=HTk.out.symm
 subst htk
 have hwt:IntKind.i64.wrap ((np:Nat):Int)=((np:Nat):Int):=IntWalk.i64_in _ (by omega)
 refine rO (fun w':World=>w'.cell? ⟨w.heap.size,0,none⟩=some (.pointer (some ⟨K,0,none⟩))∧w'.cell? ⟨w.heap.size+1,0,none⟩=some (.pointer (some ma))∧w'.cell? ⟨w.heap.size+3,0,none⟩=some (.int .i64 0)∧w'.cell? ⟨w1.heap.size,0,none⟩=some (.slice ro nr rc)∧w'.cell? ⟨ma.block,ma.off+2,none⟩=some (.slice (h.e j).po np (h.e j).pc)) (oL [0,1,2,3,4,5,6,7,8,9,10,111]) (HS.out _ (Upd.refl K K W2).drew) ?_
 exact k40
theorem call_26 (hop:i.op=26) {sl:Nat} (hia:i.a=sl) (hcal:calleeV m i=some (m.me.getD j default)) (hsm:∀ c:Int,0≤c→c<m.cl.length→sl<(m.cl.getD c.toNat default).m.length) (hsl:sl≤1000):
  Calls Tryz.prog 233 #[.pointer (some ⟨K,0,none⟩),.pointer (some (ea.add (j*7))),.int .i64 sl] w (DoPost w K h m lo lc ls oo oc bs (midV m ls i s)):=by
 obtain ⟨x,hx⟩:∃ x,x=m.me.getD j default:=⟨_,rfl⟩
 obtain ⟨ma,hma⟩:∃ a,a=ea.add (j*7):=⟨_,rfl⟩
 have hmt:=mth_ok hm hj
 rw [←hma]
 have hpl:x.p.length≤4:=by rw [hx];exact hmt.z.1
 have hpt:∀ t∈x.p,tyOk m t:=by rw [hx];exact hmt.p
 have hmc:∀ w',Upd K K w w'→w'.cell? ⟨ma.block,ma.off+2,none⟩=some (.slice (h.e j).po x.p.length (h.e j).pc)∧w'.cell? ⟨ma.block,ma.off+4,none⟩=some (.int .i64 x.r.k)∧w'.cell? ⟨ma.block,ma.off+5,none⟩=some (.int .i64 x.r.c)∧RowAt w' (h.e j).po (h.e j).pc x.p:=fun w' hu=>by
  exact k59
 have hHM:∀ w',Upd K K w w'→ModAt w' h m:=fun w' hu=>HM.old (hu.below H.hb (Nat.le_refl _) H.hK H.hK)
 have kl:=Blk.lt H.ck
 obtain ⟨W1,hW1⟩:∃ W1,W1=((((w.alloc (.cells #[.pointer (some ⟨K,0,none⟩)] 148)).alloc (.cells #[.pointer (some ma)] 152)).alloc (.cells #[.int .i64 sl] 3)).alloc (.cells #[.int .i64 1] 3)):=⟨_,rfl⟩
 have hb1:Below w.heap.size w W1:=by rw [hW1];exact bE
 have hz1:W1.heap.size=w.heap.size+4:=by rw [hW1];simp
 have b0:Blk W1 w.heap.size #[.pointer (some ⟨K,0,none⟩)] 148:=by rw [hW1];exact (((Blk.new w _ _).alloc _).alloc _).alloc _
 have b1:Blk W1 (w.heap.size+1) #[.pointer (some ma)] 152:=by rw [hW1];exact ((Blk.new' (w:=w.alloc (.cells #[.pointer (some ⟨K,0,none⟩)] 148)) _ _ (by simp)).alloc _).alloc _
 have b2:Blk W1 (w.heap.size+2) #[.int .i64 sl] 3:=by rw [hW1];exact (Blk.new' (w:=(w.alloc (.cells #[.pointer (some ⟨K,0,none⟩)] 148)).alloc (.cells #[.pointer (some ma)] 152)) _ _ (by simp)).alloc _
 have b3:Blk W1 (w.heap.size+3) #[.int .i64 1] 3:=by rw [hW1];exact Blk.new' (w:=((w.alloc (.cells #[.pointer (some ⟨K,0,none⟩)] 148)).alloc (.cells #[.pointer (some ma)] 152)).alloc (.cells #[.int .i64 sl] 3)) _ _ (by simp)
 have HB:=Lib.hid (And.intro b0 (And.intro b1 (And.intro b2 b3)))
 have m1:=(hmc W1 (Upd.of hb1))
 obtain ⟨m2,m4,m5,-⟩:=m1
 have HMc:=Lib.hid hmc
 have HHM:=Lib.hid hHM
 have HH:=Lib.hid (H.old hb1)
 have HB1:=Lib.hid hb1
 have HX:=Lib.hid hx
 have HW1:=Lib.hid hW1
 have HPt:=Lib.hid hpt
 have HNo:=Lib.hid H.ck.noTy
 have HHW:=Lib.hid HW
 have c1:=b1.cell 0 (v:=.pointer (some ma)) rfl
 have c2:=b2.cell 0 (v:=.int .i64 sl) rfl
 obtain ⟨rk,hrk⟩:∃ k,k=x.r.k:=⟨_,rfl⟩
 obtain ⟨rq,hrq⟩:∃ k,k=x.r.c:=⟨_,rfl⟩
 have hxr:x.r=⟨rk,rq⟩:=by rw [hrk,hrq]
 rw [←hrk] at m4
 rw [←hrq] at m5
 have HR:=Lib.hid hxr
 obtain ⟨np,hnp⟩:∃ n,n=x.p.length:=⟨_,rfl⟩
 rw [←hnp] at m2
 have HN:=Lib.hid hnp
 have hpl2:np≤4:=by omega
 obtain ⟨tk,htk⟩:∃ t,t=np+1:=⟨_,rfl⟩
 have HTk:=Lib.hid htk
 clear htk
 clear hx hmt hmc hHM H HM HW hb1 hW1 hpt b0 b1 b2 b3 hma hrk hrq hxr hnp hpl
 go_enter Tryz.func233,Tryz.ntmps233
 go_upto_region 4 with fail
 rw [←HW1.out]
 go_wp2_with (go_at_call 132;refine (results_any ⟨rk,rq⟩ _).mono ?_;rintro r w1 ⟨ro,rc,rfl,hrl,-,hb2⟩;have HRl:=Lib.hid hrl;have HB2:=Lib.hid hb2;clear hrl hb2)
 obtain ⟨nr,hnr⟩:∃ n,n=(resL (⟨rk,rq⟩:Ty)).length:=⟨_,rfl⟩
 rw [←hnr]
 have HNr:=Lib.hid hnr
 clear hnr m2 m4 m5 c1 c2
 have b4:=Blk.new w1 #[.slice ro nr rc] 23
 have hb3:Below W1.heap.size W1 (w1.alloc (.cells #[.slice ro nr rc] 23)):=bal HB2.out _
 have hz2:=HB2.out.size
 obtain ⟨W2,hW2⟩:∃ W2,W2=w1.alloc (.cells #[.slice ro nr rc] 23):=⟨_,rfl⟩
 rw [←hW2] at b4 hb3 ⊢
 have HRl2:=Lib.hid (show TyAt W2 ro rc (resL ⟨rk,rq⟩) from by
  have h0:=HRl.out
  rw [hW2]
  exact h0.upd (K:=K) (B:=K) (Upd.of bE) ⟨by have:=HB1.out.size;omega,fun xs z hx=>by
   have hk:=(Ck.old HH.out.ck HB2.out)
   rw [show w1.heap[K]?=_ from hk] at hx
   cases hx⟩ ⟨by have:=HB1.out.size;omega,fun xs z hx=>by
   have hk:=(Ck.old HH.out.ck HB2.out)
   rw [show w1.heap[K]?=_ from hk] at hx
   cases hx⟩)
 have HB3:=Lib.hid hb3
 have HB4:=Lib.hid b4
 have hU2:=(Upd.of (K:=K) (B:=K) HB1.out).bel HB3.out
 have HU2:=Lib.hid hU2
 have s0:=(HB.out.1.old HB3.out).cell 0 (v:=.pointer (some ⟨K,0,none⟩)) rfl
 have s1:=(HB.out.2.1.old HB3.out).cell 0 (v:=.pointer (some ma)) rfl
 have s3:=(HB.out.2.2.2.old HB3.out).cell 0 (v:=.int .i64 1) rfl
 have s4:=b4.cell 0 (v:=.slice ro nr rc) rfl
 have hS:∀ w',Upd K K W2 w'→(fun w':World=>w'.cell? ⟨w.heap.size,0,none⟩=some (.pointer (some ⟨K,0,none⟩))∧w'.cell? ⟨w.heap.size+1,0,none⟩=some (.pointer (some ma))∧w'.cell? ⟨w.heap.size+3,0,none⟩=some (.int .i64 1)∧w'.cell? ⟨w1.heap.size,0,none⟩=some (.slice ro nr rc)∧w'.cell? ⟨ma.block,ma.off+2,none⟩=some (.slice (h.e j).po np (h.e j).pc)) w':=fun w' hu=>⟨hu.cell s0 (by show w.heap.size≠K;omega) (by show w.heap.size≠K;omega),hu.cell s1 (by show w.heap.size+1≠K;omega) (by show w.heap.size+1≠K;omega),hu.cell s3 (by show w.heap.size+3≠K;omega) (by show w.heap.size+3≠K;omega),hu.cell s4 (by show w1.heap.size≠K;omega) (by show w1.heap.size≠K;omega),by rw [HN.out];exact (HMc.out _ (HU2.out.trans hu)).1⟩
 have HS:=Lib.hid hS
 have HD:=Lib.hid (show Calls Tryz.prog 171 #[.pointer (some ⟨K,0,none⟩),.int .i64 tk,.int .i64 nr,.func (Fn.func 249) #[] #[.pointer (some ⟨w.heap.size+2,0,none⟩),.pointer (some ⟨w.heap.size,0,none⟩),.pointer (some ⟨w.heap.size+1,0,none⟩),.pointer (some ⟨w.heap.size+3,0,none⟩),.pointer (some ⟨w1.heap.size,0,none⟩)]] W2.drew (DoPost W2.drew K h m lo lc ls oo oc bs (midV m ls i s)) from
  do_mid HHW.out ((HH.out.old HB3.out).old bE) hd tk nr 249 _ (by rw [cv26 hop,hcal,←HX.out];show (x.p.length+1,if x.r.k=0 then 0 else 1)=_;rw [HTk.out,HN.out,HNr.out,resL_length,←HR.out]) (by have:=HTk.out;omega) (by rw [HNr.out];have:=resL_len ⟨rk,rq⟩;omega) (fun _ _=>rfl) (fun l hl hdr w3 to' tc hu hck hown=>by
   have hu':Upd K K W2 w3:=(Upd.refl K K W2).drew.trans hu
   have huw:=HU2.out.trans hu'
   have hlt:∀ t∈l,tyOk m t:=fun t ht=>HHW.out.2 t (List.mem_of_mem_drop (by rw [hdr];exact ht))
   have hsb:=(HB.out.2.2.1.old HB3.out).upd hu' (by omega) (by omega)
   have hcb:=(HB.out.1.old HB3.out).upd hu' (by omega) (by omega)
   have hmb:=(HB.out.2.1.old HB3.out).upd hu' (by omega) (by omega)
   have hvb:=(HB.out.2.2.2.old HB3.out).upd hu' (by omega) (by omega)
   have hob:=HB4.out.upd hu' (by omega) (by omega)
   have hrl:=HRl2.out.upd hu' (Ck.noTy (HH.out.ck.old HB3.out)) (Ck.noTy (HH.out.ck.old HB3.out))
   rw [HNr.out] at hob
   have hlen:l.length=1+x.p.length:=by rw [hl];have:=HTk.out;have:=HN.out;omega
   have hown':=hown
   rw [←hl] at hown' ⊢
   have hr:=fun (e0:Int) he=>res_26 (ls:=ls) (e0:=e0) hm hop (x:=x) (by rw [HX.out];exact hcal) hlen hlt HPt.out he
   rw [HR.out] at hr
   have hsel:i.a.toNat=sl:=by rw [hia];exact Int.toNat_natCast _
   by_cases hk:(l.getD 0 default).k=2
   ·have hty:=ty_cls (hlt _ (getD_mem _ (by omega))) (.inl hk)
    have hmm:=hsm _ hty.1 hty.2
    refine (call1_yes K h m _ _ _ l x.p (h.e j).po (h.e j).pc ma sl 1 ro rc (resL ⟨rk,rq⟩) (w.heap.size+2) w.heap.size (w.heap.size+1) (w.heap.size+3) w1.heap.size to' tc _ w3 hck (fun w' hu2=>HHM.out w' (huw.trans hu2)) hsb hcb hmb hvb hob hrl (fun w' hu2=>⟨(HMc.out w' (huw.trans hu2)).1,(HMc.out w' (huw.trans hu2)).2.2.2⟩) hown' hlen (by have:=HN.out;omega) (by decide) (by omega) rfl hk ⟨hty.1,hty.2,by rw [Int.toNat_natCast];exact hmm⟩).mono ?_
    exact fun r w2 hp=>hp.imp fun out e' hq=>by obtain ⟨h1,h2⟩:=hq;rw [h1,h2,HNr.out,resL_length];exact hr _ (by rw [wantC0,hsel,Int.toNat_natCast])
   ·refine (call1_no K h m _ _ _ l x.p (h.e j).po (h.e j).pc ma sl 1 ro rc (resL ⟨rk,rq⟩) (w.heap.size+2) w.heap.size (w.heap.size+1) (w.heap.size+3) w1.heap.size to' tc _ w3 hck (fun w' hu2=>HHM.out w' (huw.trans hu2)) hsb hcb hmb hvb hob hrl (fun w' hu2=>⟨(HMc.out w' (huw.trans hu2)).1,(HMc.out w' (huw.trans hu2)).2.2.2⟩) hown' hlen (by have:=HN.out;omega) (by decide) (by omega) rfl hk).mono ?_
    exact fun r w2 hp=>hp.imp fun out e' hq=>by obtain ⟨h1,h2⟩:=hq;rw [h1,h2,HNr.out,resL_length];exact hr _ (by rw [decide_eq_false hk];rfl)))
 clear b4 hb3 hW2 hU2 s0 s1 s3 s4 hS
 have hsum:(1:Int)+(np:Int)=(tk:Int):=by have:=HTk.out;omega
 have hwt:IntKind.i64.wrap ((tk:Nat):Int)=((tk:Nat):Int):=IntWalk.i64_in _ (by have:=HTk.out;omega)
 refine rO (fun w':World=>w'.cell? ⟨w.heap.size,0,none⟩=some (.pointer (some ⟨K,0,none⟩))∧w'.cell? ⟨w.heap.size+1,0,none⟩=some (.pointer (some ma))∧w'.cell? ⟨w.heap.size+3,0,none⟩=some (.int .i64 1)∧w'.cell? ⟨w1.heap.size,0,none⟩=some (.slice ro nr rc)∧w'.cell? ⟨ma.block,ma.off+2,none⟩=some (.slice (h.e j).po np (h.e j).pc)) (oL [0,1,2,3,4,5,6,7,8,9,10,111]) (HS.out _ (Upd.refl K K W2).drew) ?_
 exact k40
end
end
section
open Go.RowKit
theorem cls_tab {m:Md} (hm:modV m=true) {sl:Nat} (hs:(sl:Int) < m.sel) (c:Int) (h0:0≤c) (h1:c<m.cl.length):sl<(m.cl.getD c.toNat default).m.length:=by
 have hc:=modV_clsN hm c.toNat (by omega)
 simp only [clsV,Bool.and_eq_true,decide_eq_true_eq] at hc
 have:=hc.1.1.2
 omega
section
variable {w0 w:World}{K:Nat}{h:Hd}{m:Md}{lo:Option Addr}{lc:Nat}{ls:List Ty}{s:Ps}{so:Option Addr}{sc:Nat}{oo:Option Addr}{oc:Nat}{bs:List VB}{i:In3}{k:Nat}(hm:modV m=true)(hlo:∀ t∈ls,tyOk m t)(HW:stkOk m s.stk)(H:St w0 w K h m lo lc ls s so sc oo oc bs)(HM:ModAt w0 h m)(hd:s.opn.length≤6)(hi:OpdOk m k i)
include w0 w K h m lo lc ls s so sc oo oc bs i k hm hlo HW H HM hd hi
theorem m_25 (hkm:k<m.me.length) (hop:i.op=25):
  Calls Tryz.prog 187 #[.pointer (some ⟨K,0,none⟩),.agg #[.int .i64 i.op,.int .i64 i.a,.int .i64 i.b]] w (DoPost w K h m lo lc ls oo oc bs (midV m ls i s)):=by
 obtain ⟨op,ia,ib⟩:=i
 dsimp only at hop
 subst hop
 have ha0:=hi.a0 (by simp)
 dsimp only at ha0
 obtain ⟨ia,rfl⟩:∃ d:Nat,ia=d:=⟨ia.toNat,by omega⟩
 have hb1:Below w.heap.size w ((w.alloc (.cells #[.pointer (some ⟨K,0,none⟩)] 148)).alloc (.cells #[.int .i64 25,.int .i64 ia,.int .i64 ib] 42)):=by exact bE
 have hbx:=(Blk.new w #[.pointer (some ⟨K,0,none⟩)] 148).alloc (.cells #[.int .i64 25,.int .i64 ia,.int .i64 ib] 42)
 have hbi:Blk ((w.alloc (.cells #[.pointer (some ⟨K,0,none⟩)] 148)).alloc (.cells #[.int .i64 25,.int .i64 ia,.int .i64 ib] 42)) (w.heap.size+1) #[.int .i64 25,.int .i64 ia,.int .i64 ib] 42:=Blk.new' (w:=w.alloc (.cells #[.pointer (some ⟨K,0,none⟩)] 148)) _ _ (by simp)
 have kl:=Blk.lt H.ck
 have H1:=H.old hb1
 obtain ⟨hik,-⟩:=hi.o25 rfl
 dsimp only at hik
 have hin:ia<m.me.length:=by omega
 obtain ⟨ea,heo,-⟩:=HM.mth hin
 have hk2:∀ w',(∃ L S O e,Ck w' K h m L S O e)→w'.cell? ⟨K,2,none⟩=some (.slice (some ea) m.me.length h.ec):=fun w' hc=>by
  obtain ⟨L,S,O,e,hc⟩:=hc
  have:=hc.cells.2.2.2.1
  rwa [heo] at this
 have HEo:=Lib.hid heo
 clear heo
 have HB1:=Lib.hid hb1
 have HH:=Lib.hid H1
 have cc:=hbx.cell 0 (v:=.pointer (some ⟨K,0,none⟩)) rfl
 have i1:=hbi.cell 1 (v:=.int .i64 ia) rfl
 have hS:∀ w',Upd K K ((w.alloc (.cells #[.pointer (some ⟨K,0,none⟩)] 148)).alloc (.cells #[.int .i64 25,.int .i64 ia,.int .i64 ib] 42)) w'→(∃ L S O e,Ck w' K h m L S O e)→(fun w':World=>w'.cell? ⟨w.heap.size,0,none⟩=some (.pointer (some ⟨K,0,none⟩))∧w'.cell? ⟨w.heap.size+1,1,none⟩=some (.int .i64 ia)∧w'.cell? ⟨K,2,none⟩=some (.slice (some ea) m.me.length h.ec)) w':=fun w' hu hc=>⟨hu.cell cc (by show w.heap.size≠K;omega) (by show w.heap.size≠K;omega),hu.cell i1 (by show w.heap.size+1≠K;omega) (by show w.heap.size+1≠K;omega),hk2 w' hc⟩
 have HS:=Lib.hid hS
 have HHM:=Lib.hid HM
 obtain ⟨W1,hW1⟩:∃ W1,W1=((w.alloc (.cells #[.pointer (some ⟨K,0,none⟩)] 148)).alloc (.cells #[.int .i64 25,.int .i64 ia,.int .i64 ib] 42)):=⟨_,rfl⟩
 rw [←hW1] at HS HH HB1
 have HW1:=Lib.hid hW1
 have HHW:=Lib.hid HW
 have HI:=Lib.hid hi
 have HHm:=Lib.hid hm
 have HLo:=Lib.hid hlo
 clear hb1 hbx hbi H1 H HM hlo HW hi hm cc i1 hS hW1 hk2
 go_enter Tryz.func187,Tryz.ntmps187
 go_wp2_with fail
 refine rO (fun w':World=>w'.cell? ⟨w.heap.size,0,none⟩=some (.pointer (some ⟨K,0,none⟩))∧w'.cell? ⟨w.heap.size+1,1,none⟩=some (.int .i64 ia)∧w'.cell? ⟨K,2,none⟩=some (.slice (some ea) m.me.length h.ec)) (oL [0,1,2,3,4,5,6,7,8,109]) (HW1.out▸HS.out _ (Upd.refl K K W1).drew ⟨_,_,_,_,Ck.drew HH.out.ck⟩) ?_
 rw [←HW1.out]
 have HB2:=Lib.hid (show Below W1.heap.size W1 W1.drew by exact bE)
 repeat refine pO ?_
 refine oO fun Kv hK=>?_
 go_simp
 refine (call_25 (i:=⟨25,ia,ib⟩) HHm.out HHW.out (HH.out.old HB2.out) HHM.out hd hin HEo.out rfl (by simp)).mono ?_
 exact k96
theorem m_26 (hb:baseV s.opn≤s.stk.length) (hkm:k<m.me.length) (hop:i.op=26):
  Calls Tryz.prog 187 #[.pointer (some ⟨K,0,none⟩),.agg #[.int .i64 i.op,.int .i64 i.a,.int .i64 i.b]] w (DoPost w K h m lo lc ls oo oc bs (midV m ls i s)):=by
 obtain ⟨op,ia,ib⟩:=i
 dsimp only at hop
 subst hop
 have ha0:=hi.a0 (by simp)
 dsimp only at ha0
 obtain ⟨ia,rfl⟩:∃ d:Nat,ia=d:=⟨ia.toNat,by omega⟩
 have hb1:Below w.heap.size w ((w.alloc (.cells #[.pointer (some ⟨K,0,none⟩)] 148)).alloc (.cells #[.int .i64 26,.int .i64 ia,.int .i64 ib] 42)):=by exact bE
 have hbx:=(Blk.new w #[.pointer (some ⟨K,0,none⟩)] 148).alloc (.cells #[.int .i64 26,.int .i64 ia,.int .i64 ib] 42)
 have hbi:Blk ((w.alloc (.cells #[.pointer (some ⟨K,0,none⟩)] 148)).alloc (.cells #[.int .i64 26,.int .i64 ia,.int .i64 ib] 42)) (w.heap.size+1) #[.int .i64 26,.int .i64 ia,.int .i64 ib] 42:=Blk.new' (w:=w.alloc (.cells #[.pointer (some ⟨K,0,none⟩)] 148)) _ _ (by simp)
 have kl:=Blk.lt H.ck
 have H1:=H.old hb1
 obtain ⟨hsel,htk⟩:=hi.o26 rfl
 dsimp only at hsel htk
 have hst:=HW.1
 have cc:=hbx.cell 0 (v:=.pointer (some ⟨K,0,none⟩)) rfl
 have i1:=hbi.cell 1 (v:=.int .i64 ia) rfl
 obtain ⟨W1,hW1⟩:∃ W1,W1=((w.alloc (.cells #[.pointer (some ⟨K,0,none⟩)] 148)).alloc (.cells #[.int .i64 26,.int .i64 ia,.int .i64 ib] 42)):=⟨_,rfl⟩
 rw [←hW1] at H1 hb1 cc i1
 have hck:∀ w',Upd K K W1 w'→(∃ L S O e,Ck w' K h m L S O e)→(fun w':World=>w'.cell? ⟨w.heap.size,0,none⟩=some (.pointer (some ⟨K,0,none⟩))∧w'.cell? ⟨w.heap.size+1,1,none⟩=some (.int .i64 ia)∧w'.cell? ⟨K,0,none⟩=some (.slice h.co m.cl.length h.cc)∧w'.cell? ⟨K,1,none⟩=some (.slice h.so m.st.length h.sc)∧w'.cell? ⟨K,2,none⟩=some (.slice h.eo m.me.length h.ec)∧w'.cell? ⟨K,3,none⟩=some (.int .i64 m.sel)) w':=fun w' hu hc=>by
  obtain ⟨L,S,O,e,hc⟩:=hc
  obtain ⟨-,k0,k1,k2,k3,-⟩:=hc.cells
  exact ⟨hu.cell cc (by show w.heap.size≠K;omega) (by show w.heap.size≠K;omega),hu.cell i1 (by show w.heap.size+1≠K;omega) (by show w.heap.size+1≠K;omega),k0,k1,k2,k3⟩
 have HS:=Lib.hid hck
 have HB1:=Lib.hid hb1
 have HH:=Lib.hid H1
 have HW1:=Lib.hid hW1
 have HHM:=Lib.hid HM
 have HHW:=Lib.hid HW
 have HHm:=Lib.hid hm
 have HT:=Lib.hid (show ∀ w',Below W1.heap.size W1 w'→Calls Tryz.prog 123 #[.agg #[.slice h.co m.cl.length h.cc,.slice h.so m.st.length h.sc,.slice h.eo m.me.length h.ec,.int .i64 m.sel],.int .i64 ia] w' (RetRow2N w' (tgtV m ia) 0) from fun w' hb'=>lTargets_new m h ia w' (HM.old (H1.hb.trans (hb'.mono H1.hb.size))) hm hsel)
 have hz1:w.heap.size+1<W1.heap.size:=cell_lt i1
 have HTk:=Lib.hid htk
 have HX:=Lib.hid (And.intro cc i1)
 clear hb1 hbx hbi H1 H HM hlo HW hi hm cc i1 hck hW1 htk
 go_enter Tryz.func187,Tryz.ntmps187
 go_wp2_with fail
 refine rO (fun w':World=>w'.cell? ⟨w.heap.size,0,none⟩=some (.pointer (some ⟨K,0,none⟩))∧w'.cell? ⟨w.heap.size+1,1,none⟩=some (.int .i64 ia)∧w'.cell? ⟨K,0,none⟩=some (.slice h.co m.cl.length h.cc)∧w'.cell? ⟨K,1,none⟩=some (.slice h.so m.st.length h.sc)∧w'.cell? ⟨K,2,none⟩=some (.slice h.eo m.me.length h.ec)∧w'.cell? ⟨K,3,none⟩=some (.int .i64 m.sel)) (oL [0,1,2,3,4,5,106,7,8,9,10,11]) (HW1.out▸HS.out _ (Upd.refl K K W1).drew ⟨_,_,_,_,Ck.drew HH.out.ck⟩) ?_
 rw [←HW1.out]
 have HB2:=Lib.hid (show Below W1.heap.size W1 W1.drew by exact bE)
 repeat refine pO ?_
 refine oO fun Kv hK=>?_
 go_simp
 refine (HT.out _ HB2.out).mono ?_
 rintro r w2 ⟨⟨ao,cap,rfl,hr,hnew⟩,hb3⟩
 have HNew:=Lib.hid hnew
 have HB3:=Lib.hid (bthen HB2.out hb3)
 have HR:=Lib.hid hr
 refine hK _ _ ⟨HS.out _ (Upd.of HB3.out) ⟨_,_,_,_,HH.out.ck.old HB3.out⟩,?_⟩
 clear hK Kv hb3 hr hnew
 repeat refine pO ?_
 refine wpMixO_done ?_
 have hmod:∀ (o:Option Mth),calleeV m ⟨26,ia,ib⟩=o→o=match tgtV m ia with|[]=>none|t :: _=>some (m.me.getD t.toNat default):=fun o ho=>by rw [←ho];rfl
 cases htg:tgtV m ia with
 | nil=>
  have hm2:midV m ls ⟨26,ia,ib⟩ s=(11,s.stk):=by
   have hc:calleeV m ⟨26,ia,ib⟩=none:=by have:=hmod _ rfl;rw [htg] at this;exact this
   unfold midV
   rw [cv26 rfl,pv26 rfl,hc,if_neg (by dsimp only;omega)]
  have HM2:=Lib.hid hm2
  have HL:=Lib.hid htg
  obtain ⟨nt,hnt⟩:∃ n,n=(tgtV m ia).length:=⟨_,rfl⟩
  rw [←htg,←hnt]
  have hn0:nt=0:=by rw [hnt,htg];rfl
  subst hn0
  have HC2:=Lib.hid (HH.out.ck.old HB3.out)
  have cc:=(HB3.out.cell (p:=⟨w.heap.size,0,none⟩) (by show w.heap.size<W1.heap.size;omega)).trans HX.out.1
  have HF:=Lib.hid (fail_any K h m _ _ _ 0 11 w2 HC2.out)
  clear htg hmod hm2 hnt
  go_wp2_with (go_at_call 219;refine HF.out.mono ?_;rintro r w4 ⟨⟨v4,rfl⟩,hc4,hu4⟩;have HC4:=Lib.hid hc4;have HU4:=Lib.hid hu4;clear hc4 hu4)
  go_end0
  refine DoPost.bel ⟨⟨_,rfl⟩,(Upd.of HB3.out).trans HU4.out,?_⟩ HB1.out
  rw [HM2.out]
  exact ⟨so,sc,s.stk,HC4.out,((HH.out.old HB3.out).ts.upd HU4.out HC2.out.noTy HC2.out.noTy),by omega,fun h0=>by cases h0⟩
 | cons t rest=>
  have hmem:t∈tgtV m ia:=by rw [htg];exact List.mem_cons_self
  have ht0:=tgt_nn hmem
  have htl:=HTk.out t hmem
  obtain ⟨tj,rfl⟩:∃ d:Nat,t=d:=⟨t.toNat,by omega⟩
  have htj:tj<m.me.length:=by omega
  have hcal:calleeV m ⟨26,ia,ib⟩=some (m.me.getD tj default):=by have:=hmod _ rfl;rw [htg] at this;exact this
  have hr:=HR.out
  obtain ⟨nt,hnt⟩:∃ n,n=(tgtV m ia).length:=⟨_,rfl⟩
  have hnt2:0<nt:=by rw [hnt,htg];simp
  obtain ⟨ta,hao,t0⟩:=row_int hr (i:=0) (by omega)
  rw [show ta.add 0=ta from by simp [Addr.add],htg] at t0
  have t0':w2.cell? ta=some (.int .i64 tj):=t0
  subst hao
  obtain ⟨ea,heo,-⟩:=HHM.out.mth htj
  have hnz:((nt:Int) == 0)=false:=by simp;omega
  have hS2:∀ w',Upd K K w2 w'→(∃ L S O e,Ck w' K h m L S O e)→(fun w':World=>w'.cell? ⟨w.heap.size,0,none⟩=some (.pointer (some ⟨K,0,none⟩))∧w'.cell? ⟨w.heap.size+1,1,none⟩=some (.int .i64 ia)∧w'.cell? ⟨K,2,none⟩=some (.slice (some ea) m.me.length h.ec)∧w'.cell? ta=some (.int .i64 tj)) w':=fun w' hu hc=>by
   obtain ⟨L,S,O,e,hc⟩:=hc
   have k2:=hc.cells.2.2.2.1
   rw [heo] at k2
   have hck2:=HH.out.ck.old HB3.out
   have hta:ta.block≠K:=by have h1:=HNew.out ta rfl;have h2:=HB1.out.size;have h3:W1.heap.size≤ta.block:=h1;omega
   exact ⟨hu.cell ((HB3.out.cell (p:=⟨w.heap.size,0,none⟩) (by show w.heap.size<W1.heap.size;omega)).trans HX.out.1) (by show w.heap.size≠K;omega) (by show w.heap.size≠K;omega),hu.cell ((HB3.out.cell (p:=⟨w.heap.size+1,1,none⟩) (by show w.heap.size+1<W1.heap.size;omega)).trans HX.out.2) (by show w.heap.size+1≠K;omega) (by show w.heap.size+1≠K;omega),k2,hu.cell t0' hta hta⟩
  have HS2:=Lib.hid hS2
  have HCal:=Lib.hid hcal
  have HEo:=Lib.hid heo
  have hsl:ia≤1000:=by have:=(modV_sizes HHm.out);simp only [sizesV,Bool.and_eq_true,decide_eq_true_eq] at this;omega
  rw [←htg,←hnt]
  clear hS2 hcal heo hmem htg hr t0 t0' hnt hmod
  go_wp2_with fail
  refine rO (fun w':World=>w'.cell? ⟨w.heap.size,0,none⟩=some (.pointer (some ⟨K,0,none⟩))∧w'.cell? ⟨w.heap.size+1,1,none⟩=some (.int .i64 ia)∧w'.cell? ⟨K,2,none⟩=some (.slice (some ea) m.me.length h.ec)∧w'.cell? ta=some (.int .i64 tj)) (oL [0,1,2,3,4,5,6,7,8,9,10,11,112]) (HS2.out _ (Upd.refl K K w2).drew ⟨_,_,_,_,Ck.drew (HH.out.ck.old HB3.out)⟩) ?_
  repeat refine pO ?_
  refine oO fun Kv hK=>?_
  go_simp
  refine (call_26 (i:=⟨26,ia,ib⟩) HHm.out HHW.out (HH.out.old (bthen HB3.out (show Below w2.heap.size w2 w2.drew by exact bE))) HHM.out hd htj HEo.out rfl rfl HCal.out (fun c h0 h1=>cls_tab HHm.out hsel c h0 h1) hsl).mono ?_
  rintro r w4 ⟨⟨v4,rfl⟩,hu4,hd4⟩
  have HU4:=Lib.hid ((Upd.refl K K w2).drew.trans hu4)
  have HD4:=Lib.hid hd4
  have hck:∃ L S O e,Ck w4 K h m L S O e:=by obtain ⟨so2,sc2,st2,h1,-⟩:=HD4.out;exact ⟨_,_,_,_,h1⟩
  refine hK _ _ ⟨HS2.out _ HU4.out hck,?_⟩
  clear hK Kv hu4 hd4 hck
  refine wpMixO_done ?_
  go_wp2
  go_end0
  exact DoPost.bel ⟨⟨_,rfl⟩,(Upd.of HB3.out).trans HU4.out,HD4.out⟩ HB1.out
theorem memory_any (hb:baseV s.opn≤s.stk.length) (hkm:k<m.me.length) (hop:i.op=0∨(14≤i.op∧i.op≤26)∨i.op=28):
  Calls Tryz.prog 187 #[.pointer (some ⟨K,0,none⟩),.agg #[.int .i64 i.op,.int .i64 i.a,.int .i64 i.b]] w (DoPost w K h m lo lc ls oo oc bs (midV m ls i s)):=by
 have cls:(i.op=0∨i.op=28)∨i.op=14∨i.op=15∨i.op=16∨i.op=17∨i.op=18∨i.op=19∨i.op=20∨i.op=21∨i.op=22∨i.op=23∨i.op=24∨i.op=25∨i.op=26:=by omega
 rcases cls with q|q|q|q|q|q|q|q|q|q|q|q|q|q
 ·exact m_else hm hlo HW H HM hd hi hb q
 ·exact m_14 hm hlo HW H HM hd hi q
 ·exact m_15 hm hlo HW H HM hd hi q
 ·exact m_16 hm hlo HW H HM hd hi q
 ·exact m_17 hm hlo HW H HM hd hi q
 ·exact m_18 hm hlo HW H HM hd hi q
 ·exact m_19 hm hlo HW H HM hd hi q
 ·exact m_20 hm hlo HW H HM hd hi q
 ·exact m_21 hm hlo HW H HM hd hi q
 ·exact m_22 hm hlo HW H HM hd hi q
 ·exact m_23 hm hlo HW H HM hd hi q
 ·exact m_24 hm hlo HW H HM hd hi q
 ·exact m_25 hm hlo HW H HM hd hi hkm q
 ·exact m_26 hm hlo HW H HM hd hi hb hkm q
theorem s_mem (hb:baseV s.opn≤s.stk.length) (hkm:k<m.me.length) (hop:i.op=0∨(14≤i.op∧i.op≤26)∨i.op=28):
  Calls Tryz.prog 131 #[.pointer (some ⟨K,0,none⟩),.agg #[.int .i64 i.op,.int .i64 i.a,.int .i64 i.b]] w (DoPost w K h m lo lc ls oo oc bs (midV m ls i s)):=by
 have HD:=Lib.hid (fun w' (hb':Below w.heap.size w w')=>memory_any hm hlo HW (H.old hb') HM hd hi hb hkm hop)
 obtain ⟨op,ia,ib⟩:=i
 dsimp only at hop HD
 have cls:op=0∨op=28∨op=14∨op=15∨op=16∨op=17∨op=18∨op=19∨op=20∨op=21∨op=22∨op=23∨op=24∨op=25∨op=26:=by omega
 clear hop hi H HM hlo HW hm hb
 rcases cls with rfl|rfl|rfl|rfl|rfl|rfl|rfl|rfl|rfl|rfl|rfl|rfl|rfl|rfl|rfl
 all_goals
  go_enter Tryz.func131,Tryz.ntmps131
  go_wp2_with (go_at_call 187;refine (HD.out _ bE).mono ?_;rintro r w2 ⟨⟨v,rfl⟩,hu2,hd2⟩;have HU2:=Lib.hid hu2;have HD2:=Lib.hid hd2;clear hu2 hd2)
  go_end0
  exact DoPost.bel ⟨⟨_,rfl⟩,HU2.out,HD2.out⟩ bE
theorem simple_any (hb:baseV s.opn≤s.stk.length) (hkm:k<m.me.length) (hop:0≤i.op∧i.op<29):
  Calls Tryz.prog 131 #[.pointer (some ⟨K,0,none⟩),.agg #[.int .i64 i.op,.int .i64 i.a,.int .i64 i.b]] w (DoPost w K h m lo lc ls oo oc bs (midV m ls i s)):=by
 have cls:i.op=1∨i.op=2∨i.op=3∨i.op=4∨i.op=5∨i.op=6∨i.op=7∨i.op=8∨i.op=9∨i.op=10∨i.op=11∨i.op=12∨i.op=13∨i.op=27∨(i.op=0∨(14≤i.op∧i.op≤26)∨i.op=28):=by omega
 rcases cls with q|q|q|q|q|q|q|q|q|q|q|q|q|q|q
 ·exact s_1 hm hlo HW H HM hd hi q
 ·exact s_2 hm hlo HW H HM hd hi q
 ·exact s_3 hm hlo HW H HM hd hi q
 ·exact s_4 hm hlo HW H HM hd hi q
 ·exact s_5 hm hlo HW H HM hd hi q
 ·exact s_6 hm hlo HW H HM hd hi q
 ·exact s_7 hm hlo HW H HM hd hi q
 ·exact s_8 hm hlo HW H HM hd hi q
 ·exact s_9 hm hlo HW H HM hd hi q
 ·exact s_10 hm hlo HW H HM hd hi q
 ·exact s_11 hm hlo HW H HM hd hi q
 ·exact s_12 hm hlo HW H HM hd hi q
 ·exact s_13 hm hlo HW H HM hd hi q
 ·exact s_27 hm hlo HW H HM hd hi q
 ·exact s_mem hm hlo HW H HM hd hi hb hkm q
end
end
section
open Go.RowKit
section
variable {P:Program}{ops:Array Oper}{md:Region.Mode}{S:World→Prop}{Q:Exit→Act→World→Prop}{n:Nat}
def mixE (P:Program) (md:Region.Mode) (ops:Array Oper) (Q:Exit→Act→World→Prop) (S:World→Prop) (n:Nat):Nat→Array Bool→Act→World→Prop
 | 0,listed,a,w=>Region.ready md ops listed=[n]∧wpOp P ops Q n (fun a' w'=>Region.ready md ops (listed.setIfInBounds n true)=[]∧Q .normal a' w') a w
 | f+1,listed,a,w=>Region.ready md ops listed≠[]∧∀ i∈Region.ready md ops listed,wpOp P ops Q i (fun a' w'=>S w'∧mixE P md ops Q S n f (listed.setIfInBounds i true) a' w') a w
theorem mixE_run (f:Nat):∀ (listed:Array Bool) (a:Act) (w:World),mixE P md ops Q S n f listed a w→wpAny P md ops Q (f+1) listed a w:=by
 induction f with
 | zero=>
  intro listed a w h
  refine ⟨fun h0=>(by rw [h.1] at h0;cases h0),fun i hi=>?_⟩
  rw [h.1] at hi
  obtain rfl:i=n:=by simpa using hi
  exact wpOp_mono (fun a' w' h'=>h') h.2
 | succ f ih=>
  intro listed a w h
  exact ⟨fun h0=>absurd h0 h.1,fun i hi=>wpOp_mono (fun a' w' h'=>ih _ a' w' h'.2) (h.2 i hi)⟩
theorem mixE_first {i:Nat}{oi on:Oper}{v:Value} (hi:ops[i]?=some oi) (hn:ops[n]?=some on) (hb:∃ e∈on.after,Region.binds md e=true∧e.on=i) (hsel:∀ (j:Nat) (o:Oper) cs b,ops[j]?=some o→o.op≠.select cs b)
  (hQ:∀ c a d v w,Q (.panic c) (Act.put a d v) w→Q (.panic c) a w) (f:Nat) :
  ∀ (listed:Array Bool) (a:Act) (w:World),
   (∀ j oj,ops[j]?=some oj→j≠i→listed.getD j true=false→(∀ e∈oj.after,Region.binds md e=true→e.on≠i)→oi.apart ops oj=true) →
   i∈Region.ready md ops listed→YieldsIf P ops S oi v a→S w →
   mixE P md ops Q S n f (listed.setIfInBounds i true) (a.put oi.dst v) w→mixE P md ops Q S n (f+1) listed a w:=by
 induction f with
 | zero=>
  intro listed a w _ hr hy hS H
  refine ⟨fun h=>(by rw [h] at hr;cases hr),fun j hj=>?_⟩
  by_cases hji:j=i
  ·subst hji;exact hy.wpOp hi hS ⟨hS,H⟩
  ·have h1:=ready_mono hj hji
   rw [H.1] at h1
   obtain rfl:j=n:=by simpa using h1
   obtain ⟨e,he,hbe,heo⟩:=hb
   obtain ⟨_,oj,hoj,hall⟩:=mem_ready.1 hj
   rw [hn] at hoj
   cases hoj
   have h2:=hall e he hbe
   rw [heo,getD_both (mem_ready.1 hr).1] at h2
   cases h2
 | succ f ih=>
  intro listed a w hfree hr hy hS H
  refine ⟨fun h=>(by rw [h] at hr;cases hr),fun j hj=>?_⟩
  by_cases hji:j=i
  ·subst hji;exact hy.wpOp hi hS ⟨hS,H⟩
  have h1:=H.2 j (ready_mono hj hji)
  obtain ⟨hjun,oj,hoj,hall⟩:=mem_ready.1 hj
  have hnot:∀ e∈oj.after,Region.binds md e=true→e.on≠i:=by
   intro e he hb heq
   have h2:=hall e he hb
   rw [heq,getD_both (mem_ready.1 hr).1] at h2
   cases h2
  have h2:=wpOp_putIf hoj (hfree j oj hoj hji hjun hnot) (fun cs b=>hsel i oi cs b hi) (fun cs b=>hsel j oj cs b hoj) (fun c a w=>hQ c _ _ _ w) hy h1
  refine wpOp_mono (fun a' w' h3=>⟨h3.2.1,ih (listed.setIfInBounds j true) a' w' ?_ (ready_mono hr (Ne.symm hji)) h3.1 h3.2.1 ?_⟩) h2
  ·intro k ok hk hki hun hno
   refine hfree k ok hk hki ?_ hno
   by_cases hjk:j=k
   ·subst hjk;exact hjun
   ·rw [getD_set_ne true hjk] at hun;exact hun
  ·rw [Array.setIfInBounds_comm _ _ hji];exact h3.2.2
def wpMixE (P:Program) (l:List Oper) (Q:Exit→Act→World→Prop) (S:World→Prop) (n:Nat):Ord→Act→World→Prop
 | .done,a,w=>wpOp P l.toArray Q n (fun a' w'=>Q .normal a' w') a w
 | .plain i t,a,w=>∃ v,YieldsIf P l.toArray S (opAt l i) v a∧wpMixE P l Q S n t (a.put (opAt l i).dst v) w
 | .one i t,a,w=>wpOp P l.toArray Q i (fun a' w'=>S w'∧wpMixE P l Q S n t a' w') a w
 | .two i j t u,a,w=>wpOp P l.toArray Q i (fun a' w'=>S w'∧wpMixE P l Q S n t a' w') a w∧wpOp P l.toArray Q j (fun a' w'=>S w'∧wpMixE P l Q S n u a' w') a w
def lexE (md:Region.Mode) (ops:Array Oper) (on:Oper) (n:Nat):Ord→Array Bool→Bool
 | .done,listed=>decide (Region.ready md ops listed=[n])&&decide (Region.ready md ops (listed.setIfInBounds n true)=[])
 | .plain k t,listed=>(Region.ready md ops listed).contains k&&Region.free md ops listed k&&(on.after.any fun e=>Region.binds md e&&decide (e.on=k))&&lexE md ops on n t (listed.setIfInBounds k true)
 | .one k t,listed=>decide (Region.ready md ops listed=[k])&&lexE md ops on n t (listed.setIfInBounds k true)
 | .two i j t u,listed=>decide (Region.ready md ops listed=[i,j])&&decide (t.len=u.len)&&lexE md ops on n t (listed.setIfInBounds i true)&&lexE md ops on n u (listed.setIfInBounds j true)
theorem mixE_lex {l:List Oper} (hQ:∀ c a d v w,Q (.panic c) (Act.put a d v) w→Q (.panic c) a w) (hsel:Region.noSelect l.toArray=true) (hnl:n<l.length) :
  ∀ (t:Ord) (listed:Array Bool) (a:Act) (w:World),t.inB l.length=true→S w→lexE md l.toArray (opAt l n) n t listed=true→wpMixE P l Q S n t a w→mixE P md l.toArray Q S n t.len listed a w
 | .done,listed,a,w,_,_,hB,h=>by
  simp only [lexE,Bool.and_eq_true,decide_eq_true_eq] at hB
  exact ⟨hB.1,wpOp_mono (fun a' w' h'=>⟨hB.2,h'⟩) h⟩
 | .plain k t,listed,a,w,hi,hS,hB,h=>by
  simp only [lexE,Bool.and_eq_true] at hB
  simp only [Ord.inB,Bool.and_eq_true,decide_eq_true_eq] at hi
  obtain ⟨⟨⟨hr,hf⟩,hbn⟩,hB'⟩:=hB
  obtain ⟨v,hy,hK⟩:=h
  have h0:l.toArray[k]?=some (opAt l k):=by simp [opAt,hi.1]
  have hn0:l.toArray[n]?=some (opAt l n):=by simp [opAt,hnl]
  have hb:∃ e∈(opAt l n).after,Region.binds md e=true∧e.on=k:=by
   rw [Array.any_eq_true] at hbn
   obtain ⟨i,h1,h2⟩:=hbn
   simp only [Bool.and_eq_true,decide_eq_true_eq] at h2
   exact ⟨_,Array.getElem_mem h1,h2.1,h2.2⟩
  exact mixE_first h0 hn0 hb (Region.noSelect_spec hsel) hQ t.len listed a w (Region.free_spec h0 hf) (by simpa using hr) hy hS (mixE_lex hQ hsel hnl t _ _ _ hi.2 hS hB' hK)
 | .one k t,listed,a,w,hi,hS,hB,h=>by
  simp only [lexE,Bool.and_eq_true,decide_eq_true_eq] at hB
  simp only [Ord.inB,Bool.and_eq_true,decide_eq_true_eq] at hi
  refine ⟨by rw [hB.1];simp,fun i hin=>?_⟩
  rw [hB.1] at hin
  obtain rfl:i=k:=by simpa using hin
  exact wpOp_mono (fun a' w' h'=>⟨h'.1,mixE_lex hQ hsel hnl t _ _ _ hi.2 h'.1 hB.2 h'.2⟩) h
 | .two i j t u,listed,a,w,hi,hS,hB,h=>by
  simp only [lexE,Bool.and_eq_true,decide_eq_true_eq] at hB
  simp only [Ord.inB,Bool.and_eq_true,decide_eq_true_eq] at hi
  refine ⟨by rw [hB.1.1.1];simp,fun k hin=>?_⟩
  rw [hB.1.1.1] at hin
  rcases (show k=i∨k=j by simpa using hin) with rfl|rfl
  ·exact wpOp_mono (fun a' w' h'=>⟨h'.1,mixE_lex hQ hsel hnl t _ _ _ hi.1.2 h'.1 hB.1.2 h'.2⟩) h.1
  ·have hlen:(Ord.two i k t u).len=u.len+1:=by rw [←hB.1.1.2];rfl
   show wpOp P l.toArray Q k (fun a' w'=>S w'∧mixE P md l.toArray Q S n t.len (listed.setIfInBounds k true) a' w') a w
   rw [hB.1.1.2]
   exact wpOp_mono (fun a' w' h'=>⟨h'.1,mixE_lex hQ hsel hnl u _ _ _ hi.2 h'.1 hB.2 h'.2⟩) h.2
theorem wp_mixE {id:Nat}{a:Act}{w:World}{l:List Oper} (S:World→Prop) (n:Nat) (t:Ord) (hm:P.follows .mixedOrders=true)
  (hB:(Region.noSelect l.toArray&&decide (t.len+1=l.length)&&decide (n<l.length)&&t.inB l.length&&lexE .any l.toArray (opAt l n) n t (Array.replicate l.length false))=true) (hQ:∀ c a d v w,Q (.panic c) (Act.put a d v) w→Q (.panic c) a w) (hS:S w.drew)
  (h:wpMixE P l Q S n t a w.drew):(Code.region id l.toArray true).wp P Q a w:=by
 simp only [Bool.and_eq_true,decide_eq_true_eq] at hB
 obtain ⟨⟨⟨⟨hsel,hlen⟩,hnl⟩,hin⟩,hlex⟩:=hB
 refine wp_region_any hm ?_
 have:=mixE_lex (P:=P) (Q:=Q) (S:=S) (md:=.any) hQ hsel hnl t _ a w.drew hin hS hlex h
 have h2:=mixE_run _ _ _ _ this
 rw [hlen] at h2
 simpa using h2
theorem wpMixE_plain {l:List Oper}{k:Nat}{t:Ord}{a:Act}{w:World} (h:∃ v,YieldsIf P l.toArray S (opAt l k) v a∧wpMixE P l Q S n t (a.put (opAt l k).dst v) w):wpMixE P l Q S n (.plain k t) a w:=h
theorem wpMixE_one {l:List Oper}{k:Nat}{t:Ord}{a:Act}{w:World} (h:wpOp P l.toArray Q k (fun a' w'=>S w'∧wpMixE P l Q S n t a' w') a w):wpMixE P l Q S n (.one k t) a w:=h
theorem wpMixE_two {l:List Oper}{i j:Nat}{t u:Ord}{a:Act}{w:World} (h1:wpOp P l.toArray Q i (fun a' w'=>S w'∧wpMixE P l Q S n t a' w') a w) (h2:wpOp P l.toArray Q j (fun a' w'=>S w'∧wpMixE P l Q S n u a' w') a w):wpMixE P l Q S n (.two i j t u) a w:=⟨h1,h2⟩
theorem wpMixE_last {l:List Oper}{a:Act}{w:World} (h:wpOp P l.toArray Q n (fun a' w'=>Q .normal a' w') a w):wpMixE P l Q S n .done a w:=h
end
section
variable {P:Program}{S:World→Prop}{Q:Exit→Act→World→Prop}{n:Nat}
theorem pE {l:List Oper}{k:Nat}{t:Ord}{a a':Act}{w:World}{o:Oper}{v:Value} (h:wpMixE P l Q S n t a' w) (ho:opAt l k=o:=by (simp only [opAt,List.getD_cons_zero,List.getD_cons_succ];rfl)) (hy:YieldsIf P l.toArray S o v a:=by first|(refine Or.inl ⟨by rfl,?_⟩;intro w hSw;(try dsimp only [Cs] at hSw);go_simp;(try with_reducible rfl);done)|exact Or.inr ⟨by rfl,rfl⟩) (ha:a.put o.dst v=a':=by ((try simp only [Act.put,List.setIfInBounds_toArray,List.set_cons_zero,List.set_cons_succ]);rfl)):wpMixE P l Q S n (.plain k t) a w:=by
 subst ho ha
 exact ⟨v,hy,h⟩
theorem oE {l:List Oper}{k:Nat}{t:Ord}{a:Act}{w:World}{o:Oper} (h:∀ Kv:Act→World→Prop,(∀ a w,S w∧wpMixE P l Q S n t a w→Kv a w)→o.wp P a w Kv Q) (ho:l.toArray[k]?=some o:=by rfl) (hw:Region.wanted o (yielded l.toArray a.tmps)=true:=by rfl):wpMixE P l Q S n (.one k t) a w:=wpMixE_one (wpOp_one o ho hw h)
theorem sE {l:List Oper}{a:Act}{w:World}{o:Oper} (h:∀ Kv:Act→World→Prop,(∀ a w,Q .normal a w→Kv a w)→o.wp P a w Kv Q) (ho:l.toArray[n]?=some o:=by rfl) (hw:Region.wanted o (yielded l.toArray a.tmps)=true:=by rfl):wpMixE P l Q S n .done a w:=wpMixE_last (wpOp_one o ho hw h)
theorem rE {id:Nat}{a:Act}{w:World}{l:List Oper} (S:World→Prop) (n:Nat) (t:Ord) (hS:S w.drew) (h:wpMixE P l Q S n t a w.drew) (hm:P.follows .mixedOrders=true:=by kernel_rfl)
  (hB:(Region.noSelect l.toArray&&decide (t.len+1=l.length)&&decide (n<l.length)&&t.inB l.length&&lexE .any l.toArray (opAt l n) n t (Array.replicate l.length false))=true:=by kernel_rfl) (hQ:∀ c a d v w,Q (.panic c) (Act.put a d v) w→Q (.panic c) a w:=by intro c a d v w h;cases d<;>exact h):(Code.region id l.toArray true).wp P Q a w:=wp_mixE S n t hm hB hQ hS h
end
end
end Go.Proofs.YtfkbfjhocmbneaaGreat

/- SBusy · ScI · Wk2 · SCopy · SWk · Act · ICo · SLand · STick: each text proves what its theorems say, with no conditions but theirs. -/
import Derived.Test.YtdbmkfmenfcbiaaGreatRows
import Derived.Test.YtdbmkfmenfcbiaaGreatNM2
import Derived.Test.YtdbmkfmenfcbiaaGreatNM1
import Derived.BigQuiet
import Derived.Deep.QuietTactic
namespace Go.Proofs.YtdbmkfmenfcbiaaGreat
open Go.RowKit Go.Deep
set_option maxRecDepth 100000 in
set_option maxHeartbeats 4000000 in
theorem ztd (bt bn bw : Int) (cs : List Chan) (hs : List Htlc) (os : List Circle) (A1 A2 A3 : Option Addr) (p1 p2 p3 : Nat) (ch : Int) (w : World) (h60 : hs.length ≤ 60) (h20 : os.length ≤ 20) (hr : RdBook w w.heap.size A1 cs A2 hs A3 os) :
  Calls Tryz.prog 110 #[.agg #[.int .i64 bt,.int .i64 bn,.int .i64 bw,.slice A1 cs.length p1,.slice A2 hs.length p2,.slice A3 os.length p3],.int .i64 ch] w fun e w' => e = .returned (.bool (busyB hs os ch))∧Below w.heap.size w w':=by
 have HH:=hd_ hr.h
 have HO:=hd_ hr.o
 clear hr
 go_enter Tryz.func110,Tryz.ntmps110
 go_wp2_with fail
 go_loopw [12] (fun i wr => ∃ k : Nat,k ≤ hs.length∧i = .int .i64 k∧Hid ((hs.take k).any (usesH ch) = false)∧wr.heap[w.heap.size]? = some (.cells #[.int .i64 bt,.int .i64 bn,.int .i64 bw,.slice A1 cs.length p1,.slice A2 hs.length p2,.slice A3 os.length p3] 39 (0,0))∧Below w.heap.size w wr) (fun i _ => hs.length - (intOf i).toNat)
 case atStart => exact ⟨0,Nat.zero_le _,rfl,hd_ rfl,zqi rfl,bl_⟩
 case round =>
  obtain ⟨k,hk,rfl,HA,hbox,hbw⟩:=hrel
  have hbz:=hbw.size
  obtain ⟨eh,e0,e1,e2,e3,e4,e5,ef,ezz⟩:=own6 (Below.refl wr.heap.size wr) (gz_ hbox).1 hbox
  have EH:=hd_ eh
  clear eh hbox
  by_cases hlt : k < hs.length
  ·
   obtain ⟨b,off,rfl,hbB,c0,c1,c2,c3,c4,c5,c6⟩:=Htlc.rd (HH.out.below hbw) hlt
   clear e0 e1 e2 e3 e4 e5 ef
   have Fx:=hd_ (zjo hs (usesH ch) hlt)
   have HT:=hd_ (fun hp => zvw hs (usesH ch) hlt hp)
   cases t1 : (hs[k].In == ch)
   ·
    cases t2 : (hs[k].Out == ch)
    ·
     have Kx:=hd_ (show usesH ch hs[k] = false by simp only [usesH,t1,t2];rfl)
     go_wp2_with fail
     go_roundw
     case rel => exact ⟨k + 1,by omega,by go_num,hd_ (by rw [Fx.out,HA.out,Kx.out];rfl),zqd ezz EH.out,bl_⟩
     case measure => simp [intOf];omega
    have Kx:=hd_ (show busyB hs os ch = true by unfold busyB;rw [HT.out (by simp only [usesH,t2,Bool.or_true])];rfl)
    go_wp2_with fail
    go_ret
    exact ⟨zqf Kx.out.symm,bl_⟩
   have Kx:=hd_ (show busyB hs os ch = true by unfold busyB;rw [HT.out (by simp only [usesH,t1,Bool.true_or])];rfl)
   go_wp2_with fail
   go_ret
   exact ⟨zqf Kx.out.symm,bl_⟩
  obtain rfl : k = hs.length:=by omega
  have qx:=HA.out
  rw [List.take_length] at qx
  have Qx:=hd_ qx
  clear qx
  go_wp2_with fail
  obtain ⟨wo,rfl⟩ : ∃ wo : World,wo = wr:=⟨_,rfl⟩
  go_loopw [30] (fun i wr => ∃ k : Nat,k ≤ os.length∧i = .int .i64 k∧Hid ((os.take k).any (usesC ch) = false)∧wr.heap[w.heap.size]? = some (.cells #[.int .i64 bt,.int .i64 bn,.int .i64 bw,.slice A1 cs.length p1,.slice A2 hs.length p2,.slice A3 os.length p3] 39 (0,0))∧Below w.heap.size w wr) (fun i _ => os.length - (intOf i).toNat)
  case atStart => exact ⟨0,Nat.zero_le _,rfl,hd_ rfl,EH.out,bl_⟩
  case round =>
   obtain ⟨k,hk,rfl,HA,hbox,hbw⟩:=hrel
   have hbz:=hbw.size
   obtain ⟨eh,e0,e1,e2,e3,e4,e5,ef,ezz⟩:=own6 (Below.refl wr.heap.size wr) (gz_ hbox).1 hbox
   have EH:=hd_ eh
   clear eh hbox
   by_cases hlt : k < os.length
   rotate_left
   ·
    obtain rfl : k = os.length:=by omega
    have qy:=HA.out
    rw [List.take_length] at qy
    have Kx:=hd_ (show busyB hs os ch = false by unfold busyB;rw [Qx.out,qy];rfl)
    clear qy
    go_wp2_with fail
    go_ret
    exact ⟨zqf Kx.out.symm,bl_⟩
   obtain ⟨b,off,rfl,hbB,c0,c1,c2,c3,c4⟩:=Circle.rd (HO.out.below hbw) hlt
   clear e0 e1 e2 e3 e4 e5 ef
   have Fx:=hd_ (zjo os (usesC ch) hlt)
   have HT:=hd_ (fun hp => zvw os (usesC ch) hlt hp)
   cases t1 : (os[k].From == ch)
   ·
    cases t2 : (os[k].To == ch)
    ·
     have Kx:=hd_ (show usesC ch os[k] = false by simp only [usesC,t1,t2];rfl)
     go_wp2_with fail
     go_roundw
     case rel => exact ⟨k + 1,by omega,by go_num,hd_ (by rw [Fx.out,HA.out,Kx.out];rfl),zqd ezz EH.out,bl_⟩
     case measure => simp [intOf];omega
    have Kx:=hd_ (show busyB hs os ch = true by unfold busyB;rw [HT.out (by simp only [usesC,t2,Bool.or_true])];simp)
    go_wp2_with fail
    go_ret
    exact ⟨zqf Kx.out.symm,bl_⟩
   have Kx:=hd_ (show busyB hs os ch = true by unfold busyB;rw [HT.out (by simp only [usesC,t1,Bool.true_or])];simp)
   go_wp2_with fail
   go_ret
   exact ⟨zqf Kx.out.symm,bl_⟩
theorem Small.few_bd {hs : List Htlc} {os : List Circle} (s : Small hs os) (ch : Int) : ∀ k,k ≤ hs.length → 0 ≤ (hs.take k).foldl (fewH ch) 0∧(hs.take k).foldl (fewH ch) 0 ≤ (k : Int) * 1125899906842624
 | 0,_ => by simp
 | k + 1,hk => by
  obtain ⟨h1,h2⟩:=s.few_bd ch k (by omega)
  obtain ⟨⟨a,b⟩,_⟩:=s.h k (by omega)
  rw [zqq hs _ _ (by omega)]
  unfold fewH at h1 h2 ⊢
  split
  ·
   split <;> omega
  omega
theorem slot_bd {hs : List Htlc} (ch : Int) : ∀ k,k ≤ hs.length → 0 ≤ (hs.take k).foldl (slotH ch) 0∧(hs.take k).foldl (slotH ch) 0 ≤ (k : Int)
 | 0,_ => by simp
 | k + 1,hk => by
  obtain ⟨h1,h2⟩:=slot_bd (hs:=hs) ch k (by omega)
  rw [zqq hs _ _ (by omega)]
  unfold slotH at h1 h2 ⊢
  split <;> omega
theorem zhq {hs : List Htlc} (ch : Int) : ∀ k,k ≤ hs.length → 0 ≤ (hs.take k).foldl (slotFewH ch) 0∧(hs.take k).foldl (slotFewH ch) 0 ≤ (k : Int)
 | 0,_ => by simp
 | k + 1,hk => by
  obtain ⟨h1,h2⟩:=zhq (hs:=hs) ch k (by omega)
  rw [zqq hs _ _ (by omega)]
  unfold slotFewH at h1 h2 ⊢
  split
  ·
   split <;> omega
  omega
set_option maxRecDepth 100000 in
set_option maxHeartbeats 4000000 in
theorem zhh (bt bn bw : Int) (cs : List Chan) (hs : List Htlc) (os : List Circle) (A1 A2 A3 : Option Addr) (p1 p2 p3 : Nat) (ci co : Chan) (amt : Int) (yes : Bool) (w : World) (hsm : Small hs os) (hr : RdBook w w.heap.size A1 cs A2 hs A3 os) :
  Calls Tryz.prog 112 #[.agg #[.int .i64 bt,.int .i64 bn,.int .i64 bw,.slice A1 cs.length p1,.slice A2 hs.length p2,.slice A3 os.length p3],.agg #[.int .i64 ci.Id,.int .i64 ci.Size,.int .i64 ci.Local,.int .i64 ci.Remote,.int .i64 ci.Base,.int .i64 ci.Ppm,.int .i64 ci.Score],.agg #[.int .i64 co.Id,.int .i64 co.Size,.int .i64 co.Local,.int .i64 co.Remote,.int .i64 co.Base,.int .i64 co.Ppm,.int .i64 co.Score],.int .i64 amt,.bool yes] w fun e w' => e = .returned (.int .i64 (roomF hs co co.Id amt ci.Score yes))∧Below w.heap.size w w':=by
 have HH:=hd_ hr.h
 have HS:=hd_ hsm
 have h60:=hsm.hl
 clear hr hsm
 obtain ⟨ch,hch⟩ : ∃ ch,co.Id = ch:=⟨_,rfl⟩
 rw [hch]
 have HCH:=hd_ hch
 clear hch
 go_enter Tryz.func112,Tryz.ntmps112
 go_wp2_with fail
 go_loopw [11,12,13,14,20] (fun v1 v2 v3 v4 i wr => ∃ (k : Nat) (x1 x2 x3 x4 : Int),k ≤ hs.length∧i = .int .i64 k∧v1 = .int .i64 x1∧v2 = .int .i64 x2∧v3 = .int .i64 x3∧v4 = .int .i64 x4∧Hid ((hs.take k).foldl (fewH ch) 0 = x1)∧Hid ((hs.take k).foldl (outH ch) 0 = x2)∧Hid ((hs.take k).foldl (slotFewH ch) 0 = x3)∧Hid ((hs.take k).foldl (slotH ch) 0 = x4)
   ∧ wr.heap[w.heap.size]? = some (.cells #[.int .i64 bt,.int .i64 bn,.int .i64 bw,.slice A1 cs.length p1,.slice A2 hs.length p2,.slice A3 os.length p3] 39 (0,0))
   ∧ wr.heap[w.heap.size + 1]? = some (.cells #[.int .i64 ci.Id,.int .i64 ci.Size,.int .i64 ci.Local,.int .i64 ci.Remote,.int .i64 ci.Base,.int .i64 ci.Ppm,.int .i64 ci.Score] 103 (0,0))
   ∧ wr.heap[w.heap.size + 1 + 1]? = some (.cells #[.int .i64 ch,.int .i64 co.Size,.int .i64 co.Local,.int .i64 co.Remote,.int .i64 co.Base,.int .i64 co.Ppm,.int .i64 co.Score] 103 (0,0))∧Below w.heap.size w wr) (fun _ _ _ _ i _ => hs.length - (intOf i).toNat)
 case atStart => exact ⟨0,_,_,_,_,Nat.zero_le _,rfl,rfl,rfl,rfl,rfl,hd_ rfl,hd_ rfl,hd_ rfl,hd_ rfl,zqd (by simp;omega) (zqd (by simp) (zqi rfl)),zqd (by simp) (zqi (by simp)),zqi (by simp),bl_⟩
 case round =>
  obtain ⟨k,x1,x2,x3,x4,hk,rfl,rfl,rfl,rfl,rfl,H1,H2,H3,H4,hbox,hbi,hbo,hbw⟩:=hrel
  have hbz:=hbw.size
  obtain ⟨eh,e0,e1,e2,e3,e4,e5,ef,ezz⟩:=own6 (Below.refl wr.heap.size wr) (gz_ hbox).1 hbox
  have EH:=hd_ eh
  have s6 : wr.cell? ⟨w.heap.size + 1,6,none⟩ = some (.int .i64 ci.Score):=zqc hbi 6
  have o0 : wr.cell? ⟨w.heap.size + 1 + 1,0,none⟩ = some (.int .i64 ch):=zqc hbo 0
  have o1 : wr.cell? ⟨w.heap.size + 1 + 1,1,none⟩ = some (.int .i64 co.Size):=zqc hbo 1
  have oz:=(gz_ hbo).1
  have iz:=(gz_ hbi).1
  have EI:=hd_ hbi
  have EO:=hd_ hbo
  clear eh hbox hbi hbo
  have bd1:=HS.out.few_bd ch k hk
  have bd2:=HS.out.outH_bd ch k hk
  have bd3:=zhq (hs:=hs) ch k hk
  have bd4:=slot_bd (hs:=hs) ch k hk
  rw [H1.out] at bd1
  rw [H2.out] at bd2
  rw [H3.out] at bd3
  rw [H4.out] at bd4
  obtain ⟨l1,u1⟩:=bd1
  obtain ⟨l2,u2⟩:=bd2
  obtain ⟨l3,u3⟩:=bd3
  obtain ⟨l4,u4⟩:=bd4
  by_cases hlt : k < hs.length
  rotate_left
  ·
   obtain rfl : k = hs.length:=by omega
   have q1:=H1.out
   have q2:=H2.out
   have q3:=H3.out
   have q4:=H4.out
   rw [List.take_length] at q1 q2 q3 q4
   have HE:=hd_ (show roomF hs co ch amt ci.Score yes = allowF co.Size x1 x2 x3 x4 amt (standB ci.Score yes) by unfold roomF;rw [q1,q2,q3,q4])
   clear q1 q2 q3 q4 H1 H2 H3 H4
   go_wp2_with fail
   go_quiet (first | (go_at_call 157;exact zqh (s_Standing _ _ _)) | (go_at_call 156;exact zqh (s_Allow _ _ _ _ _ _ _ _ (by omega) (by omega))))
   go_wp2_with fail
   go_ret
   exact ⟨zxc HE.out.symm,bl_⟩
  obtain ⟨b,off,rfl,hbB,c0,c1,c2,c3,c4,c5,c6⟩:=Htlc.rd (HH.out.below hbw) hlt
  obtain ⟨⟨m1,m2⟩,m3,m4⟩:=HS.out.h k hlt
  clear e0 e1 e2 e3 e4 e5 ef s6 o1
  have F1:=hd_ (zqq hs (fewH ch) 0 hlt)
  have F2:=hd_ (zqq hs (outH ch) 0 hlt)
  have F3:=hd_ (zqq hs (slotFewH ch) 0 hlt)
  have F4:=hd_ (zqq hs (slotH ch) 0 hlt)
  cases tx : (hs[k].Out == ch)
  ·
   have tn : (hs[k].Out != ch) = true:=by simp [bne,tx]
   have K1:=hd_ (show fewH ch x1 hs[k] = x1 by simp [fewH,tx])
   have K2:=hd_ (show outH ch x2 hs[k] = x2 by simp [outH,tx])
   have K3:=hd_ (show slotFewH ch x3 hs[k] = x3 by simp [slotFewH,tx])
   have K4:=hd_ (show slotH ch x4 hs[k] = x4 by simp [slotH,tx])
   clear tx
   go_wp2_with fail
   go_roundw
   case rel => exact ⟨k + 1,_,_,_,_,by omega,by go_num,rfl,rfl,rfl,rfl,hd_ (by rw [F1.out,H1.out,K1.out]),hd_ (by rw [F2.out,H2.out,K2.out]),hd_ (by rw [F3.out,H3.out,K3.out]),hd_ (by rw [F4.out,H4.out,K4.out]),zqd ezz EH.out,zqd iz EI.out,zqd oz EO.out,bl_⟩
   case measure => simp [intOf];omega
  have tn : (hs[k].Out != ch) = false:=by simp [bne,tx]
  cases ty : hs[k].Kept
  ·
   have K1:=hd_ (show fewH ch x1 hs[k] = x1 + hs[k].AmtOut by simp [fewH,tx,ty])
   have K2:=hd_ (show outH ch x2 hs[k] = x2 + hs[k].AmtOut by simp [outH,tx])
   have K3:=hd_ (show slotFewH ch x3 hs[k] = x3 + 1 by simp [slotFewH,tx,ty])
   have K4:=hd_ (show slotH ch x4 hs[k] = x4 + 1 by simp [slotH,tx])
   clear tx
   go_wp2_with fail
   go_roundw
   case rel => exact ⟨k + 1,_,_,_,_,by omega,by go_num,by first | rfl | go_num,by first | rfl | go_num,by first | rfl | go_num,by first | rfl | go_num,hd_ (by rw [F1.out,H1.out,K1.out]),hd_ (by rw [F2.out,H2.out,K2.out]),hd_ (by rw [F3.out,H3.out,K3.out]),hd_ (by rw [F4.out,H4.out,K4.out]),zqd ezz EH.out,zqd iz EI.out,zqd oz EO.out,bl_⟩
   case measure => simp [intOf];omega
  have K1:=hd_ (show fewH ch x1 hs[k] = x1 by simp [fewH,tx,ty])
  have K2:=hd_ (show outH ch x2 hs[k] = x2 + hs[k].AmtOut by simp [outH,tx])
  have K3:=hd_ (show slotFewH ch x3 hs[k] = x3 by simp [slotFewH,tx,ty])
  have K4:=hd_ (show slotH ch x4 hs[k] = x4 + 1 by simp [slotH,tx])
  clear tx
  go_wp2_with fail
  go_roundw
  case rel => exact ⟨k + 1,_,_,_,_,by omega,by go_num,by first | rfl | go_num,by first | rfl | go_num,by first | rfl | go_num,by first | rfl | go_num,hd_ (by rw [F1.out,H1.out,K1.out]),hd_ (by rw [F2.out,H2.out,K2.out]),hd_ (by rw [F3.out,H3.out,K3.out]),hd_ (by rw [F4.out,H4.out,K4.out]),zqd ezz EH.out,zqd iz EI.out,zqd oz EO.out,bl_⟩
  case measure => simp [intOf];omega
theorem i_ScoreUp (n : Int) (w : World) : Calls Tryz.prog 148 #[.int .i64 n] w fun e w' => e = .returned (.int .i64 (upF n))∧w = w':=by
 cases h : inB n (-100) 100
 ·
  have HE:=hd_ (show upF n = 0 by unfold upF;rw [h];rfl)
  go_enter Tryz.func148,Tryz.ntmps148
  go_wp2_with (go_at_call 85;refine (zxi _ _).mono ?_;rintro e w' ⟨rfl,rfl⟩)
  go_ret
  exact ⟨zxc HE.out.symm,rfl⟩
 have HE:=hd_ (show upF n = min (n + 10) 100 by unfold upF;rw [h];rfl)
 obtain ⟨h1,h2⟩:=zjj.1 h
 go_enter Tryz.func148,Tryz.ntmps148
 go_wp2_with (go_at_call 85;refine (zxi _ _).mono ?_;rintro e w' ⟨rfl,rfl⟩)
 go_ret
 exact ⟨zxc (by rw [HE.out]),rfl⟩
theorem i_ScoreDown (n : Int) (w : World) : Calls Tryz.prog 149 #[.int .i64 n] w fun e w' => e = .returned (.int .i64 (downF n))∧w = w':=by
 cases h : inB n (-100) 100
 ·
  have HE:=hd_ (show downF n = 0 by unfold downF;rw [h];rfl)
  go_enter Tryz.func149,Tryz.ntmps149
  go_wp2_with (go_at_call 85;refine (zxi _ _).mono ?_;rintro e w' ⟨rfl,rfl⟩)
  go_ret
  exact ⟨zxc HE.out.symm,rfl⟩
 have HE:=hd_ (show downF n = max (n - 15) (-100) by unfold downF;rw [h];rfl)
 obtain ⟨h1,h2⟩:=zjj.1 h
 go_enter Tryz.func149,Tryz.ntmps149
 go_wp2_with (go_at_call 85;refine (zxi _ _).mono ?_;rintro e w' ⟨rfl,rfl⟩)
 go_ret
 exact ⟨zxc (by rw [HE.out]),rfl⟩
theorem i_ScoreFade (n : Int) (w : World) : Calls Tryz.prog 150 #[.int .i64 n] w fun e w' => e = .returned (.int .i64 (fadeF n))∧w = w':=by
 cases h : inB n (-100) 100
 ·
  have HE:=hd_ (show fadeF n = 0 by unfold fadeF;rw [h];rfl)
  go_enter Tryz.func150,Tryz.ntmps150
  go_wp2_with (go_at_call 85;refine (zxi _ _).mono ?_;rintro e w' ⟨rfl,rfl⟩)
  go_ret
  exact ⟨zxc HE.out.symm,rfl⟩
 have HE:=hd_ (show fadeF n = if 0 < n then n - 1 else if n < 0 then n + 1 else 0 by unfold fadeF;rw [h];rfl)
 obtain ⟨h1,h2⟩:=zjj.1 h
 by_cases h0 : n = 0
 ·
  subst h0
  go_enter Tryz.func150,Tryz.ntmps150
  go_wp2_with (go_at_call 85;refine (zxi _ _).mono ?_;rintro e w' ⟨rfl,rfl⟩)
  go_ret
  exact ⟨zxc HE.out.symm,rfl⟩
 have t0 : (n == 0) = false:=by simpa using h0
 by_cases hp : 0 < n
 ·
  have HF:=hd_ (show fadeF n = n - 1 by rw [HE.out,if_pos hp])
  clear h0
  go_enter Tryz.func150,Tryz.ntmps150
  go_wp2_with (go_at_call 85;refine (zxi _ _).mono ?_;rintro e w' ⟨rfl,rfl⟩)
  go_ret
  exact ⟨zxc HF.out.symm,rfl⟩
 have HF:=hd_ (show fadeF n = n + 1 by rw [HE.out,if_neg hp,if_pos (by omega)])
 have hneg : n < 0:=by omega
 clear h0
 go_enter Tryz.func150,Tryz.ntmps150
 go_wp2_with (go_at_call 85;refine (zxi _ _).mono ?_;rintro e w' ⟨rfl,rfl⟩)
 go_ret
 exact ⟨zxc HF.out.symm,rfl⟩
theorem i_Standing (n : Int) (y : Bool) (w : World) : Calls Tryz.prog 166 #[.int .i64 n,.bool y] w fun e w' => e = .returned (.bool (standB n y))∧w = w':=by
 cases h : inB n (-100) 100
 ·
  have HE:=hd_ (show standB n y = false by unfold standB;rw [h];rfl)
  go_enter Tryz.func166,Tryz.ntmps166
  go_wp2_with (go_at_call 85;refine (zxi _ _).mono ?_;rintro e w' ⟨rfl,rfl⟩)
  go_ret
  exact ⟨zqf HE.out.symm,rfl⟩
 by_cases h2 : 20 ≤ n
 ·
  have HE:=hd_ (show standB n y = y by unfold standB;rw [h,decide_eq_true h2];rfl)
  go_enter Tryz.func166,Tryz.ntmps166
  go_wp2_with (go_at_call 85;refine (zxi _ _).mono ?_;rintro e w' ⟨rfl,rfl⟩)
  go_ret
  exact ⟨zqf HE.out.symm,rfl⟩
 have HE:=hd_ (show standB n y = false by unfold standB;rw [decide_eq_false h2,Bool.and_false];rfl)
 have t2 : decide (n ≥ 20) = false:=decide_eq_false (by omega)
 go_enter Tryz.func166,Tryz.ntmps166
 go_wp2_with (go_at_call 85;refine (zxi _ _).mono ?_;rintro e w' ⟨rfl,rfl⟩)
 go_ret
 exact ⟨zqf HE.out.symm,rfl⟩
theorem i_Allow (size few all sf s amt : Int) (good : Bool) (w : World) (b1 : -1000 ≤ sf∧sf ≤ 1000) (b2 : -1000 ≤ s∧s ≤ 1000) :
  Calls Tryz.prog 165 #[.int .i64 size,.int .i64 few,.int .i64 all,.int .i64 sf,.int .i64 s,.int .i64 amt,.bool good] w fun e w' => e = .returned (.int .i64 (allowF size few all sf s amt good))∧w = w':=by
 have none : ∀ h : (amtB size && amtB few && amtB all && amtB amt && decide (0 ≤ sf) && decide (0 ≤ s) && decide (few ≤ all) && decide (sf ≤ s)) = false,allowF size few all sf s amt good = 0:=fun h => by unfold allowF;rw [if_pos h]
 cases h1 : amtB size
 ·
  have HE:=hd_ (none (by rw [h1];rfl))
  clear none
  go_enter Tryz.func165,Tryz.ntmps165
  go_wp2_with (go_at_call 50;refine (zqo _ _).mono ?_;rintro e w' ⟨rfl,rfl⟩)
  go_ret
  exact ⟨zxc HE.out.symm,rfl⟩
 cases h2 : amtB few
 ·
  have HE:=hd_ (none (by rw [h2];simp))
  clear none
  go_enter Tryz.func165,Tryz.ntmps165
  go_wp2_with (go_at_call 50;refine (zqo _ _).mono ?_;rintro e w' ⟨rfl,rfl⟩)
  go_ret
  exact ⟨zxc HE.out.symm,rfl⟩
 cases h3 : amtB all
 ·
  have HE:=hd_ (none (by rw [h3];simp))
  clear none
  go_enter Tryz.func165,Tryz.ntmps165
  go_wp2_with (go_at_call 50;refine (zqo _ _).mono ?_;rintro e w' ⟨rfl,rfl⟩)
  go_ret
  exact ⟨zxc HE.out.symm,rfl⟩
 cases h4 : amtB amt
 ·
  have HE:=hd_ (none (by rw [h4];simp))
  clear none
  go_enter Tryz.func165,Tryz.ntmps165
  go_wp2_with (go_at_call 50;refine (zqo _ _).mono ?_;rintro e w' ⟨rfl,rfl⟩)
  go_ret
  exact ⟨zxc HE.out.symm,rfl⟩
 by_cases h5 : sf < 0
 ·
  have HE:=hd_ (none (by rw [decide_eq_false (show ¬ 0 ≤ sf by omega)];simp))
  clear none
  go_enter Tryz.func165,Tryz.ntmps165
  go_wp2_with (go_at_call 50;refine (zqo _ _).mono ?_;rintro e w' ⟨rfl,rfl⟩)
  go_ret
  exact ⟨zxc HE.out.symm,rfl⟩
 by_cases h6 : s < 0
 ·
  have HE:=hd_ (none (by rw [decide_eq_false (show ¬ 0 ≤ s by omega)];simp))
  clear none
  have t5 : decide (sf < 0) = false:=decide_eq_false h5
  go_enter Tryz.func165,Tryz.ntmps165
  go_wp2_with (go_at_call 50;refine (zqo _ _).mono ?_;rintro e w' ⟨rfl,rfl⟩)
  go_ret
  exact ⟨zxc HE.out.symm,rfl⟩
 have t5 : decide (sf < 0) = false:=decide_eq_false h5
 have t6 : decide (s < 0) = false:=decide_eq_false h6
 by_cases h7 : all < few
 ·
  have HE:=hd_ (none (by rw [decide_eq_false (show ¬ few ≤ all by omega)];simp))
  clear none
  go_enter Tryz.func165,Tryz.ntmps165
  go_wp2_with (go_at_call 50;refine (zqo _ _).mono ?_;rintro e w' ⟨rfl,rfl⟩)
  go_ret
  exact ⟨zxc HE.out.symm,rfl⟩
 have t7 : decide (few > all) = false:=decide_eq_false (by omega)
 by_cases h8 : s < sf
 ·
  have HE:=hd_ (none (by rw [decide_eq_false (show ¬ sf ≤ s by omega)];simp))
  clear none
  go_enter Tryz.func165,Tryz.ntmps165
  go_wp2_with (go_at_call 50;refine (zqo _ _).mono ?_;rintro e w' ⟨rfl,rfl⟩)
  go_ret
  exact ⟨zxc HE.out.symm,rfl⟩
 have t8 : decide (sf > s) = false:=decide_eq_false (by omega)
 clear none
 have HA:=hd_ (show allowF size few all sf s amt good = if 10 ≤ s ∨ size < all + amt then 0 else if sf < 5∧few + amt ≤ size / 2 then 1 else if good = true then 2 else 0 by
  unfold allowF
  rw [if_neg]
  rw [h1,h2,h3,h4,decide_eq_true (show 0 ≤ sf by omega),decide_eq_true (show 0 ≤ s by omega),decide_eq_true (show few ≤ all by omega),decide_eq_true (show sf ≤ s by omega)]
  simp)
 obtain ⟨x1,y1⟩:=zja.1 h1
 obtain ⟨x2,y2⟩:=zja.1 h2
 obtain ⟨x3,y3⟩:=zja.1 h3
 obtain ⟨x4,y4⟩:=zja.1 h4
 by_cases g1 : 10 ≤ s
 ·
  have HE:=hd_ (show allowF size few all sf s amt good = 0 by rw [HA.out,if_pos (Or.inl g1)])
  go_enter Tryz.func165,Tryz.ntmps165
  go_wp2_with (go_at_call 50;refine (zqo _ _).mono ?_;rintro e w' ⟨rfl,rfl⟩)
  go_ret
  exact ⟨zxc HE.out.symm,rfl⟩
 have t9 : decide (s ≥ 10) = false:=decide_eq_false (by omega)
 by_cases g2 : size < all + amt
 ·
  have HE:=hd_ (show allowF size few all sf s amt good = 0 by rw [HA.out,if_pos (Or.inr g2)])
  go_enter Tryz.func165,Tryz.ntmps165
  go_wp2_with (go_at_call 50;refine (zqo _ _).mono ?_;rintro e w' ⟨rfl,rfl⟩)
  go_ret
  exact ⟨zxc HE.out.symm,rfl⟩
 have u2 : decide (all + amt > size) = false:=decide_eq_false (by omega)
 have HB:=hd_ (show allowF size few all sf s amt good = if sf < 5∧few + amt ≤ size / 2 then 1 else if good = true then 2 else 0 by rw [HA.out,if_neg (by omega)])
 by_cases g3 : sf < 5
 ·
  by_cases g4 : few + amt ≤ size / 2
  ·
   have HE:=hd_ (show allowF size few all sf s amt good = 1 by rw [HB.out,if_pos ⟨g3,g4⟩])
   go_enter Tryz.func165,Tryz.ntmps165
   go_wp2_with (go_at_call 50;refine (zqo _ _).mono ?_;rintro e w' ⟨rfl,rfl⟩)
   go_ret
   exact ⟨zxc HE.out.symm,rfl⟩
  have u4 : decide (few + amt ≤ size / 2) = false:=decide_eq_false g4
  cases good
  ·
   have HE:=hd_ (show allowF size few all sf s amt false = 0 by rw [HB.out,if_neg (fun h => g4 h.2)];rfl)
   go_enter Tryz.func165,Tryz.ntmps165
   go_wp2_with (go_at_call 50;refine (zqo _ _).mono ?_;rintro e w' ⟨rfl,rfl⟩)
   go_ret
   exact ⟨zxc HE.out.symm,rfl⟩
  have HE:=hd_ (show allowF size few all sf s amt true = 2 by rw [HB.out,if_neg (fun h => g4 h.2)];rfl)
  go_enter Tryz.func165,Tryz.ntmps165
  go_wp2_with (go_at_call 50;refine (zqo _ _).mono ?_;rintro e w' ⟨rfl,rfl⟩)
  go_ret
  exact ⟨zxc HE.out.symm,rfl⟩
 have u3 : decide (sf < 5) = false:=decide_eq_false g3
 cases good
 ·
  have HE:=hd_ (show allowF size few all sf s amt false = 0 by rw [HB.out,if_neg (fun h => g3 h.1)];rfl)
  go_enter Tryz.func165,Tryz.ntmps165
  go_wp2_with (go_at_call 50;refine (zqo _ _).mono ?_;rintro e w' ⟨rfl,rfl⟩)
  go_ret
  exact ⟨zxc HE.out.symm,rfl⟩
 have HE:=hd_ (show allowF size few all sf s amt true = 2 by rw [HB.out,if_neg (fun h => g3 h.1)];rfl)
 go_enter Tryz.func165,Tryz.ntmps165
 go_wp2_with (go_at_call 50;refine (zqo _ _).mono ?_;rintro e w' ⟨rfl,rfl⟩)
 go_ret
 exact ⟨zxc HE.out.symm,rfl⟩
theorem mulR_of {n ppm : Int} (h : mulArgs n ppm 1000000 = true) : mulQ n ppm 1000000 = divQ n ppm 1000000∧mulR n ppm 1000000 = divR n ppm 1000000∧mulOk n ppm 1000000 = divB n ppm 1000000:=by
 refine ⟨by unfold mulQ;rw [if_pos h],by unfold mulR;rw [if_pos h],by unfold mulOk;rw [h];rfl⟩
theorem zgg {base ppm n : Int} (h : feeOk base ppm n = false) : feeV base ppm n = 0:=by unfold feeV;rw [h];rfl
set_option maxHeartbeats 1000000 in
theorem i_fee (base ppm n : Int) (w : World) : Calls Tryz.prog 164 #[.int .i64 base,.int .i64 ppm,.int .i64 n,.bool true] w fun e w' => e = .returned (.tuple #[.int .i64 (feeV base ppm n),.bool (feeOk base ppm n)])∧Below w.heap.size w w':=by
 by_cases h4 : 1000000 < ppm
 ·
  have h0 : feeOk base ppm n = false:=by unfold feeOk;rw [show inB ppm 0 1000000 = false by unfold inB;exact decide_eq_false (by omega)];simp
  have HE:=hd_ (And.intro h0 (zgg h0))
  clear h0
  have t4 : decide (ppm > 1000000) = true:=decide_eq_true (by omega)
  clear h4
  cases h5 : mulOk n ppm 1000000
  all_goals
   go_enter Tryz.func164,Tryz.ntmps164
   go_wp2_with fail
   refine (zhb n ppm 1000000 _).mono ?_
   rintro e w1 ⟨rfl,hb⟩
   rw [h5]
   have HB:=hd_ hb
   clear hb
   go_wp2_with fail
   go_ret2
   exact ⟨by rw [HE.out.1,HE.out.2];rfl,HB.out⟩
 have t4 : decide (ppm > 1000000) = false:=decide_eq_false (by omega)
 cases h5 : mulOk n ppm 1000000
 ·
  have h0 : feeOk base ppm n = false:=by
   cases hA : (amtB n && inB ppm 0 1000000)
   ·
    unfold feeOk
    have : (amtB base && amtB n && inB ppm 0 1000000) = false:=by rw [Bool.and_assoc,hA,Bool.and_false]
    rw [this];rfl
   simp only [Bool.and_eq_true] at hA
   obtain ⟨n1,n2⟩:=zja.1 hA.1
   obtain ⟨p1,p2⟩:=zjj.1 hA.2
   have hd:=(zhl (ppm:=ppm) (n:=n) ⟨n1,n2⟩ ⟨p1,p2⟩).1
   unfold mulOk mulArgs at h5
   rw [hd,hA.1,show amtB ppm = true from zja.2 ⟨p1,by omega⟩] at h5
   exact absurd h5 (by decide)
  have HE:=hd_ (And.intro h0 (zgg h0))
  clear h0 h4
  go_enter Tryz.func164,Tryz.ntmps164
  go_wp2_with fail
  refine (zhb n ppm 1000000 _).mono ?_
  rintro e w1 ⟨rfl,hb⟩
  rw [h5]
  have HB:=hd_ hb
  clear hb
  go_wp2_with fail
  go_ret2
  exact ⟨by rw [HE.out.1,HE.out.2];rfl,HB.out⟩
 have hA : mulArgs n ppm 1000000 = true:=by
  unfold mulOk at h5
  rw [Bool.and_eq_true] at h5
  exact h5.1
 have hA2:=hA
 simp only [mulArgs,Bool.and_eq_true,zja] at hA2
 obtain ⟨⟨⟨⟨n1,n2⟩,p1,p2⟩,-⟩,-⟩:=hA2
 obtain ⟨m1,m2,m3⟩:=mulR_of hA
 obtain ⟨d0,d1,d2,d3,d4⟩:=zhl (ppm:=ppm) (n:=n) ⟨n1,n2⟩ ⟨by omega,by omega⟩
 have HQ:=hd_ (show mulQ n ppm 1000000 = n * ppm / 1000000 by rw [m1];unfold divQ;rw [if_pos d0])
 have HR:=hd_ (show mulR n ppm 1000000 = n * ppm % 1000000 by rw [m2];unfold divR;rw [if_pos d0])
 have HD:=hd_ h5
 have HOk:=hd_ (show feeOk base ppm n = (amtB base && amtB (feeQ ppm n) && amtB (base + feeQ ppm n)) by
  unfold feeOk
  rw [show amtB n = true from zja.2 ⟨n1,n2⟩,show inB ppm 0 1000000 = true from zjj.2 ⟨by omega,by omega⟩,Bool.and_true,Bool.and_true])
 have HV:=hd_ (show feeV base ppm n = if feeOk base ppm n = true then base + feeQ ppm n else 0 from rfl)
 have HQF:=hd_ (show feeQ ppm n = n * ppm / 1000000 + (if 0 < n * ppm % 1000000 then 1 else 0) from rfl)
 obtain ⟨q,hq⟩ : ∃ q,n * ppm / 1000000 = q:=⟨_,rfl⟩
 obtain ⟨r,hr⟩ : ∃ r,n * ppm % 1000000 = r:=⟨_,rfl⟩
 rw [hq] at d1 d2 HQ HQF
 rw [hr] at d3 d4 HR HQF
 clear d0 hq hr h5 hA m1 m2 m3 h4
 by_cases hr0 : 0 < r
 ·
  have HF:=hd_ (show feeQ ppm n = q + 1 by rw [HQF.out,if_pos hr0])
  go_enter Tryz.func164,Tryz.ntmps164
  go_wp2_with fail
  refine (zhb n ppm 1000000 _).mono ?_
  rintro e w1 ⟨rfl,hb⟩
  rw [HQ.out,HR.out,HD.out]
  have HB:=hd_ hb
  clear hb
  go_wp2_with fail
  cases hs : (amtB base && amtB (q + 1) && amtB (base + (q + 1)))
  ·
   have HO2:=hd_ (show feeOk base ppm n = false by rw [HOk.out,HF.out];exact hs)
   refine (zwn _ _ _ hs).mono ?_
   rintro e w' ⟨rfl,rfl⟩
   go_wp2_with fail
   go_ret2
   exact ⟨by rw [HV.out,HO2.out];rfl,HB.out⟩
  simp only [Bool.and_eq_true] at hs
  have HO2:=hd_ (show feeOk base ppm n = true by rw [HOk.out,HF.out,hs.1.1,hs.1.2,hs.2];rfl)
  refine (zvp _ _ _ hs.1.1 hs.1.2 hs.2).mono ?_
  rintro e w' ⟨rfl,rfl⟩
  go_wp2_with fail
  go_ret2
  exact ⟨by rw [HV.out,HO2.out,if_pos rfl,HF.out];rfl,HB.out⟩
 have HF:=hd_ (show feeQ ppm n = q by rw [HQF.out,if_neg hr0,Int.add_zero])
 have tr : decide (r > 0) = false:=decide_eq_false (by omega)
 go_enter Tryz.func164,Tryz.ntmps164
 go_wp2_with fail
 refine (zhb n ppm 1000000 _).mono ?_
 rintro e w1 ⟨rfl,hb⟩
 rw [HQ.out,HR.out,HD.out]
 have HB:=hd_ hb
 clear hb
 go_wp2_with fail
 cases hs : (amtB base && amtB q && amtB (base + q))
 ·
  have HO2:=hd_ (show feeOk base ppm n = false by rw [HOk.out,HF.out];exact hs)
  refine (zwn _ _ _ hs).mono ?_
  rintro e w' ⟨rfl,rfl⟩
  go_wp2_with fail
  go_ret2
  exact ⟨by rw [HV.out,HO2.out];rfl,HB.out⟩
 simp only [Bool.and_eq_true] at hs
 have HO2:=hd_ (show feeOk base ppm n = true by rw [HOk.out,HF.out,hs.1.1,hs.1.2,hs.2];rfl)
 refine (zvp _ _ _ hs.1.1 hs.1.2 hs.2).mono ?_
 rintro e w' ⟨rfl,rfl⟩
 go_wp2_with fail
 go_ret2
 exact ⟨by rw [HV.out,HO2.out,if_pos rfl,HF.out];rfl,HB.out⟩
theorem i_FeeUp (base ppm n : Int) (w : World) : Calls Tryz.prog 145 #[.int .i64 base,.int .i64 ppm,.int .i64 n] w fun e w' => e = .returned (.tuple #[.int .i64 (feeV base ppm n),.bool (feeOk base ppm n)])∧Below w.heap.size w w':=by
 go_enter Tryz.func145,Tryz.ntmps145
 go_wp2_with fail
 refine (i_fee _ _ _ _).mono ?_
 rintro e w1 ⟨rfl,hb⟩
 have HB:=hd_ hb
 clear hb
 go_wp2_with fail
 go_ret2
 exact ⟨rfl,HB.out⟩
end Go.Proofs.YtdbmkfmenfcbiaaGreat
namespace Go.Proofs.YtdbmkfmenfcbiaaGreat
open Go.RowKit Go.Deep
theorem Ow.heapW {w : World} {B size n cap g : Nat} {e : TypeId} {rows : List (List Value)} (h : Ow w B e size (.slice (some ⟨g,0,none⟩) n cap) rows) : ∃ cur,w.heap[g]? = some (.cells cur e (0,0)):=by
 rcases h.2.2 with ⟨hv,_⟩ | ⟨g',cap',cur,hv,_,hh,_⟩
 ·
  cases hv
 injection hv with h1
 injection h1 with h1
 injection h1 with h1
 subst h1
 exact ⟨cur,hh⟩
theorem Ow.headW {w : World} {B n cap size : Nat} {e : TypeId} {A : Option Addr} {rows : List (List Value)} (h : Ow w B e size (.slice A n cap) rows) (h0 : 0 < rows.length) : ∃ g,A = some ⟨g,0,none⟩∧B ≤ g:=by
 rcases h.open_ with ⟨hr,hv⟩ | ⟨g,cap',hv,hB,_,_⟩
 ·
  rw [hr] at h0
  simp at h0
 injection hv with h1
 exact ⟨g,h1,hB⟩
def set7 (w : World) (g o : Nat) (u0 u1 u2 u3 u4 u5 u6 : Value) : World :=
 ((((((w.setCell ⟨g,o,none⟩ u0).setCell ⟨g,o + 1,none⟩ u1).setCell ⟨g,o + 2,none⟩ u2).setCell ⟨g,o + 3,none⟩ u3).setCell ⟨g,o + 4,none⟩ u4).setCell ⟨g,o + 5,none⟩ u5).setCell ⟨g,o + 6,none⟩ u6
theorem grown_set7 (w : World) (g o : Nat) (u0 u1 u2 u3 u4 u5 u6 : Value) : w.grownBy (set7 w g o u0 u1 u2 u3 u4 u5 u6) (some g) :=
 zqg (zqg (zqg (zqg (zqg (zqg (zqg (World.grownBy.refl w (some g)) o u0) (o + 1) u1) (o + 2) u2) (o + 3) u3) (o + 4) u4) (o + 5) u5) (o + 6) u6
theorem Ow.set7 {w : World} {B n cap g i : Nat} {e : TypeId} {rows : List (List Value)} {r : List Value} (h : Ow w B e 7 (.slice (some ⟨g,0,none⟩) n cap) rows) (hi : rows[i]? = some r) (u0 u1 u2 u3 u4 u5 u6 : Value) :
  Ow (Go.Proofs.YtdbmkfmenfcbiaaGreat.set7 w g (i * 7) u0 u1 u2 u3 u4 u5 u6) B e 7 (.slice (some ⟨g,0,none⟩) n cap) (rows.set i [u0,u1,u2,u3,u4,u5,u6]):=by
 have hlt : i < rows.length:=(List.getElem?_eq_some_iff.1 hi).1
 have hl:=h.1 r (List.mem_of_getElem? hi)
 have at_ : ∀ (R : List (List Value)) (x : List Value),R.length = rows.length → (R.set i x)[i]? = some x:=fun R x hR => by
  rw [List.getElem?_set_self (by omega)]
 have s0:=h.stored hi (j:=0) (by decide) u0
 have s1:=s0.stored (at_ _ _ rfl) (j:=1) (by decide) u1
 rw [List.set_set] at s1
 have s2:=s1.stored (at_ _ _ rfl) (j:=2) (by decide) u2
 rw [List.set_set] at s2
 have s3:=s2.stored (at_ _ _ rfl) (j:=3) (by decide) u3
 rw [List.set_set] at s3
 have s4:=s3.stored (at_ _ _ rfl) (j:=4) (by decide) u4
 rw [List.set_set] at s4
 have s5:=s4.stored (at_ _ _ rfl) (j:=5) (by decide) u5
 rw [List.set_set] at s5
 have s6:=s5.stored (at_ _ _ rfl) (j:=6) (by decide) u6
 rw [List.set_set] at s6
 match r,hl with
 | [_,_,_,_,_,_,_],_ => exact s6
theorem zxm {cs : List Chan} {ch : Int} {i : Nat} (h : chanIx cs ch = (i : Int)) : i < cs.length:=by
 unfold chanIx at h
 split at h
 ·
  rename_i j hj
  have:=(List.findIdx?_eq_some_iff_getElem.1 hj).1
  omega
 omega
theorem zsb {α : Type} {l : List α} {i : Nat} (h : i < l.length) (f : α → α) : l.modify i f = l.set i (f l[i]):=by
 apply List.ext_getElem?
 intro j
 rw [List.getElem?_modify,List.getElem?_set]
 by_cases hj : i = j
 ·
  subst hj
  simp [h]
 simp [hj]
section
variable {T : TypeId} {w0 w : World} {B X : Nat} {b : Bk} {L : List Line} {code : Int} {A1 A2 A3 A4 : Option Addr} {p1 p2 p3 p4 : Nat}
theorem zhe (cs : List Chan) (i : Nat) (c : Chan) : (cs.set i c).map Chan.cells = (cs.map Chan.cells).set i c.cells:=by
 rw [List.map_set]
theorem Wk.putChan {g i : Nat} (h : Wk T w0 w B X b L code (some ⟨g,0,none⟩) A2 A3 A4 p1 p2 p3 p4) (hT1 : 103 ≠ T) (hi : i < b.cs.length) (c : Chan) :
  Wk T w0 (Go.Proofs.YtdbmkfmenfcbiaaGreat.set7 w g (i * 7) (.int .i64 c.Id) (.int .i64 c.Size) (.int .i64 c.Local) (.int .i64 c.Remote) (.int .i64 c.Base) (.int .i64 c.Ppm) (.int .i64 c.Score)) B X ⟨b.t,b.n,b.w,b.cs.set i c,b.hs,b.os⟩ L code (some ⟨g,0,none⟩) A2 A3 A4 p1 p2 p3 p4:=by
 have hg:=grown_set7 w g (i * 7) (.int .i64 c.Id) (.int .i64 c.Size) (.int .i64 c.Local) (.int .i64 c.Remote) (.int .i64 c.Base) (.int .i64 c.Ppm) (.int .i64 c.Score)
 obtain ⟨cur,hh⟩:=h.o.c.heapW
 have hr : (b.cs.map Chan.cells)[i]? = some b.cs[i].cells:=by rw [List.getElem?_map,List.getElem?_eq_getElem hi];rfl
 have h7:=h.o.c.set7 hr (.int .i64 c.Id) (.int .i64 c.Size) (.int .i64 c.Local) (.int .i64 c.Remote) (.int .i64 c.Base) (.int .i64 c.Ppm) (.int .i64 c.Score)
 have hgX : some X ≠ some g:=fun e => by
  injection e with e
  subst e
  rw [h.x] at hh
  injection hh with hh
  injection hh with _ hh
  exact hT1 hh.symm
 have hBg : B ≤ g:=(h.o.c.block g (by simp [Value.ownBlock])).1
 refine ⟨?_,⟨?_,?_,?_⟩,?_,?_,?_,h.bx⟩
 ·
  rw [List.length_set]
  exact zqe hg hgX h.x
 ·
  rw [List.length_set,zhe]
  exact h7
 ·
  exact h.o.h.grown hg (Or.inr (h.o.h.ne_ hh (by decide)).symm)
 ·
  exact h.o.o.grown hg (Or.inr (h.o.o.ne_ hh (by decide)).symm)
 ·
  exact h.l.grown hg (Or.inr (h.l.ne_ hh (by decide)).symm)
 ·
  exact h.b.grown hg h.ble (fun k e => by injection e with e;omega)
 intro k cs t h1 h2
 have h3:=h.f k cs t h1 h2
 refine zqe hg ?_ h3
 intro e
 injection e with e
 subst e
 rw [hh] at h3
 injection h3 with h3
 injection h3 with _ h3
 exact h2 (by rw [← h3];simp [wkTs])
end
def Stop (p : Prop) : Prop:=p
theorem Stop.go {p : Prop} (h : Stop p) : p:=h
theorem Stop.on {p : Prop} (h : p) : Stop p:=h
theorem zjx : (Tryz.prog.info? 103).map (fun i => (i.zero,i.size,i.bytes)) = some (some (.agg #[.int .i64 0,.int .i64 0,.int .i64 0,.int .i64 0,.int .i64 0,.int .i64 0,.int .i64 0]),7,56):=by kernel_rfl
theorem zjy : (Tryz.prog.info? 70).map (fun i => (i.zero,i.size,i.bytes)) = some (some (.agg #[.int .i64 0,.int .i64 0,.int .i64 0,.int .i64 0,.int .i64 0,.bool false,.int .i64 0]),7,56):=by kernel_rfl
theorem zjn : (Tryz.prog.info? 93).map (fun i => (i.zero,i.size,i.bytes)) = some (some (.agg #[.int .i64 0,.int .i64 0,.int .i64 0,.int .i64 0,.int .i64 0]),5,40):=by kernel_rfl
theorem zkd (l : List Chan) : ∀ u ∈ (l.map Chan.cells).flatten,u.oneCell' = true:=by
 intro u hu
 obtain ⟨r,hr,hu⟩:=List.mem_flatten.1 hu
 obtain ⟨x,_,rfl⟩:=List.mem_map.1 hr
 simp only [Chan.cells,List.mem_cons,List.not_mem_nil,or_false] at hu
 rcases hu with rfl | rfl | rfl | rfl | rfl | rfl | rfl <;> rfl
theorem zha (l : List Htlc) : ∀ u ∈ (l.map Htlc.cells).flatten,u.oneCell' = true:=by
 intro u hu
 obtain ⟨r,hr,hu⟩:=List.mem_flatten.1 hu
 obtain ⟨x,_,rfl⟩:=List.mem_map.1 hr
 simp only [Htlc.cells,List.mem_cons,List.not_mem_nil,or_false] at hu
 rcases hu with rfl | rfl | rfl | rfl | rfl | rfl | rfl <;> rfl
theorem zvc (l : List Circle) : ∀ u ∈ (l.map Circle.cells).flatten,u.oneCell' = true:=by
 intro u hu
 obtain ⟨r,hr,hu⟩:=List.mem_flatten.1 hu
 obtain ⟨x,_,rfl⟩:=List.mem_map.1 hr
 simp only [Circle.cells,List.mem_cons,List.not_mem_nil,or_false] at hu
 rcases hu with rfl | rfl | rfl | rfl | rfl <;> rfl
def CopyP (w : World) (b : Bk) (e : Ending) (w' : World) : Prop :=
 ∃ (C1 C2 C3 : Option Addr) (q1 q2 q3 : Nat),e = .returned (.agg #[.int .i64 b.t,.int .i64 b.n,.int .i64 b.w,.slice C1 b.cs.length q1,.slice C2 b.hs.length q2,.slice C3 b.os.length q3])∧OwB w' w.heap.size b C1 C2 C3 q1 q2 q3∧Below w.heap.size w w'
set_option maxRecDepth 100000 in
set_option maxHeartbeats 4000000 in
theorem s_l07Copy (b : Bk) (A1 A2 A3 : Option Addr) (p1 p2 p3 : Nat) (w : World) (l1 : b.cs.length ≤ 1048576) (l2 : b.hs.length ≤ 1048576) (l3 : b.os.length ≤ 1048576) (hr : RdBook w w.heap.size A1 b.cs A2 b.hs A3 b.os) :
  Calls Tryz.prog 63 #[.agg #[.int .i64 b.t,.int .i64 b.n,.int .i64 b.w,.slice A1 b.cs.length p1,.slice A2 b.hs.length p2,.slice A3 b.os.length p3]] w (CopyP w b):=by
 obtain ⟨i0,hi,hz0,hz1,hz2⟩:=info_parts zjx
 obtain ⟨j0,hj,hy0,hy1,hy2⟩:=info_parts zjy
 obtain ⟨k0,hk,hx0,hx1,hx2⟩:=info_parts zjn
 have HI0:=hd_ hi
 have HI1:=hd_ hz0
 have HI2:=hd_ hz1
 have HI3:=hd_ hz2
 have HJ0:=hd_ hj
 have HJ1:=hd_ hy0
 have HJ2:=hd_ hy1
 have HJ3:=hd_ hy2
 have HK0:=hd_ hk
 have HK1:=hd_ hx0
 have HK2:=hd_ hx1
 have HK3:=hd_ hx2
 have HR:=hd_ hr
 clear hi hz0 hz1 hz2 hj hy0 hy1 hy2 hk hx0 hx1 hx2 hr
 go_enter Tryz.func63,Tryz.ntmps63
 go_wp2_with (at_builtin;refine Stop.go ?_)
 refine Stop.on ?_
 refine zkb rfl _ _ _ rfl w.heap.size 103 i0 _ 7 56 Tryz.underlying35 HI0 HI1 HI2 HI3 rfl (by decide) _ _ [] 0 rfl (by rfl) (by first | exact Ow.empty_ rfl (by first | omega | (simp;done) | (simp;omega)) | exact Ow.empty_ (by simp) (by first | omega | (simp;done) | (simp;omega))) A1 p1 (b.cs.map Chan.cells) b.cs.length (by rw [List.length_map]) (by rfl) w.heap.size (HR.out.c.below (bl_)) (zkd b.cs) (by rw [List.length_map];simp only [List.length_nil];omega) (by decide) (by first | omega | (simp;done) | (simp;omega)) ?_
 intro C1 q1 w1 how1 hb1 hg1
 simp only [Nat.zero_add,List.nil_append] at how1 ⊢
 have kX : Hid (w1.heap[w.heap.size]? = some (.cells (bkC b A1 p1 A2 p2 A3 p3) 39 (0,0))):=hd_ (zqe hg1 (by first | (simp [Value.ownBlock];done) | (simp [Value.ownBlock];omega)) (zqd (by simp;omega) (zqd (by simp) (zqi rfl))))
 have kY : Hid (w1.heap[w.heap.size + 1]? = some (.cells #[.int .i64 0,.int .i64 0,.int .i64 0,.slice none 0 0,.slice none 0 0,.slice none 0 0] 39 (0,0))):=hd_ (zqe hg1 (by first | (simp [Value.ownBlock];done) | (simp [Value.ownBlock];omega)) (zqd (by simp) (zqi (by simp))))
 have kB : Hid (Below w.heap.size w w1):=hd_ (bl_)
 have kO1:=hd_ how1
 clear how1 hb1 hg1
 obtain ⟨_,x0,x1,x2,x3,x4,x5,xf,xz⟩:=own6 (Below.refl _ _) (gz_ kX.out).1 kX.out
 obtain ⟨_,y0,y1,y2,y3,y4,y5,yf,_⟩:=own6 (Below.refl _ _) (gz_ kY.out).1 kY.out
 go_wp2_with (at_builtin;refine Stop.go ?_)
 refine Stop.on ?_
 clear x0 x1 x2 x3 x4 x5 xf y0 y1 y2 y3 y4 y5 yf
 obtain ⟨v1,hv1⟩ : ∃ v,w1.setCell ⟨w.heap.size,3,none⟩ (.slice C1 b.cs.length q1) = v:=⟨_,rfl⟩
 have hX1 : Hid (v1.heap[w.heap.size]? = some (.cells (bkC b C1 q1 A2 p2 A3 p3) 39 (0,0))):=hd_ (by rw [← hv1];exact zqa kX.out)
 have hY1 : Hid (v1.heap[w.heap.size + 1]? = some (.cells #[.int .i64 0,.int .i64 0,.int .i64 0,.slice none 0 0,.slice none 0 0,.slice none 0 0] 39 (0,0))):=hd_ (by rw [← hv1];exact zjp (by simp) kY.out)
 have hB1 : Hid (Below w.heap.size w v1):=hd_ (by rw [← hv1];exact kB.out.setCell (Nat.le_refl _) _)
 have hO1:=hd_ (show Ow v1 w.heap.size 103 7 (.slice C1 b.cs.length q1) (b.cs.map Chan.cells) by rw [← hv1];exact kO1.out.aside kX.out (by decide) _)
 have hs1 : w1.heap.size = v1.heap.size:=by rw [← hv1];simp
 rw [hv1]
 try rw [hs1]
 clear hs1 hv1 kX kY kB xz kO1
 obtain ⟨_,x0,x1,x2,x3,x4,x5,xf,xz⟩:=own6 (Below.refl _ _) (gz_ hX1.out).1 hX1.out
 have yz:=(gz_ hY1.out).1
 refine zkb rfl _ _ _ rfl w.heap.size 70 j0 _ 7 56 Tryz.underlying36 HJ0 HJ1 HJ2 HJ3 rfl (by decide) _ _ [] 0 rfl (by rfl) (by first | exact Ow.empty_ rfl (by first | omega | (simp;done) | (simp;omega)) | exact Ow.empty_ (by simp) (by first | omega | (simp;done) | (simp;omega))) A2 p2 (b.hs.map Htlc.cells) b.hs.length (by rw [List.length_map]) (by rfl) w.heap.size (HR.out.h.below (bl_)) (zha b.hs) (by rw [List.length_map];simp only [List.length_nil];omega) (by decide) (by first | omega | (simp;done) | (simp;omega)) ?_
 intro C2 q2 w2 how2 hb2 hg2
 simp only [Nat.zero_add,List.nil_append] at how2 ⊢
 have kX : Hid (w2.heap[w.heap.size]? = some (.cells (bkC b C1 q1 A2 p2 A3 p3) 39 (0,0))):=hd_ (zqe hg2 (by first | (simp [Value.ownBlock];done) | (simp [Value.ownBlock];omega)) (zqd xz hX1.out))
 have kY : Hid (w2.heap[w.heap.size + 1]? = some (.cells #[.int .i64 0,.int .i64 0,.int .i64 0,.slice none 0 0,.slice none 0 0,.slice none 0 0] 39 (0,0))):=hd_ (zqe hg2 (by first | (simp [Value.ownBlock];done) | (simp [Value.ownBlock];omega)) (zqd yz hY1.out))
 have kB : Hid (Below w.heap.size w w2):=hd_ (bl_)
 have kO1:=hd_ ((hO1.out.alloc _).grown hg2 (Or.inr (fun e => by have h9:=(hO1.out.block v1.heap.size (by first | exact e | exact e.symm)).2;omega)))
 clear xf xz yz x0 x1 x2 x3 x4 x5 hO1 hX1 hY1 hB1
 have kO2:=hd_ how2
 clear how2 hb2 hg2
 obtain ⟨_,x0,x1,x2,x3,x4,x5,xf,xz⟩:=own6 (Below.refl _ _) (gz_ kX.out).1 kX.out
 obtain ⟨_,y0,y1,y2,y3,y4,y5,yf,_⟩:=own6 (Below.refl _ _) (gz_ kY.out).1 kY.out
 go_wp2_with (at_builtin;refine Stop.go ?_)
 refine Stop.on ?_
 clear x0 x1 x2 x3 x4 x5 xf y0 y1 y2 y3 y4 y5 yf
 obtain ⟨v2,hv2⟩ : ∃ v,w2.setCell ⟨w.heap.size,4,none⟩ (.slice C2 b.hs.length q2) = v:=⟨_,rfl⟩
 have hX2 : Hid (v2.heap[w.heap.size]? = some (.cells (bkC b C1 q1 C2 q2 A3 p3) 39 (0,0))):=hd_ (by rw [← hv2];exact zqa kX.out)
 have hY2 : Hid (v2.heap[w.heap.size + 1]? = some (.cells #[.int .i64 0,.int .i64 0,.int .i64 0,.slice none 0 0,.slice none 0 0,.slice none 0 0] 39 (0,0))):=hd_ (by rw [← hv2];exact zjp (by simp) kY.out)
 have hB2 : Hid (Below w.heap.size w v2):=hd_ (by rw [← hv2];exact kB.out.setCell (Nat.le_refl _) _)
 have hO1:=hd_ (show Ow v2 w.heap.size 103 7 (.slice C1 b.cs.length q1) (b.cs.map Chan.cells) by rw [← hv2];exact kO1.out.aside kX.out (by decide) _)
 have hO2:=hd_ (show Ow v2 w.heap.size 70 7 (.slice C2 b.hs.length q2) (b.hs.map Htlc.cells) by rw [← hv2];exact kO2.out.aside kX.out (by decide) _)
 have hs2 : w2.heap.size = v2.heap.size:=by rw [← hv2];simp
 rw [hv2]
 try rw [hs2]
 clear hs2 hv2 kX kY kB xz kO1 kO2
 obtain ⟨_,x0,x1,x2,x3,x4,x5,xf,xz⟩:=own6 (Below.refl _ _) (gz_ hX2.out).1 hX2.out
 have yz:=(gz_ hY2.out).1
 refine zkb rfl _ _ _ rfl w.heap.size 93 k0 _ 5 40 Tryz.underlying37 HK0 HK1 HK2 HK3 rfl (by decide) _ _ [] 0 rfl (by rfl) (by first | exact Ow.empty_ rfl (by first | omega | (simp;done) | (simp;omega)) | exact Ow.empty_ (by simp) (by first | omega | (simp;done) | (simp;omega))) A3 p3 (b.os.map Circle.cells) b.os.length (by rw [List.length_map]) (by rfl) w.heap.size (HR.out.o.below (bl_)) (zvc b.os) (by rw [List.length_map];simp only [List.length_nil];omega) (by decide) (by first | omega | (simp;done) | (simp;omega)) ?_
 intro C3 q3 w3 how3 hb3 hg3
 simp only [Nat.zero_add,List.nil_append] at how3 ⊢
 have kX : Hid (w3.heap[w.heap.size]? = some (.cells (bkC b C1 q1 C2 q2 A3 p3) 39 (0,0))):=hd_ (zqe hg3 (by first | (simp [Value.ownBlock];done) | (simp [Value.ownBlock];omega)) (zqd xz hX2.out))
 have kY : Hid (w3.heap[w.heap.size + 1]? = some (.cells #[.int .i64 0,.int .i64 0,.int .i64 0,.slice none 0 0,.slice none 0 0,.slice none 0 0] 39 (0,0))):=hd_ (zqe hg3 (by first | (simp [Value.ownBlock];done) | (simp [Value.ownBlock];omega)) (zqd yz hY2.out))
 have kB : Hid (Below w.heap.size w w3):=hd_ (bl_)
 have kO1:=hd_ ((hO1.out.alloc _).grown hg3 (Or.inr (fun e => by have h9:=(hO1.out.block v2.heap.size (by first | exact e | exact e.symm)).2;omega)))
 have kO2:=hd_ ((hO2.out.alloc _).grown hg3 (Or.inr (fun e => by have h9:=(hO2.out.block v2.heap.size (by first | exact e | exact e.symm)).2;omega)))
 clear xf xz yz x0 x1 x2 x3 x4 x5 hO1 hO2 hX2 hY2 hB2
 have kO3:=hd_ how3
 clear how3 hb3 hg3
 obtain ⟨_,x0,x1,x2,x3,x4,x5,xf,xz⟩:=own6 (Below.refl _ _) (gz_ kX.out).1 kX.out
 obtain ⟨_,y0,y1,y2,y3,y4,y5,yf,_⟩:=own6 (Below.refl _ _) (gz_ kY.out).1 kY.out
 go_wp2_with (at_builtin;refine Stop.go ?_)
 clear x0 x1 x2 x3 x4 x5 xf y0 y1 y2 y3 y4 y5 yf
 obtain ⟨v3,hv3⟩ : ∃ v,w3.setCell ⟨w.heap.size,5,none⟩ (.slice C3 b.os.length q3) = v:=⟨_,rfl⟩
 have hX3 : Hid (v3.heap[w.heap.size]? = some (.cells (bkC b C1 q1 C2 q2 C3 q3) 39 (0,0))):=hd_ (by rw [← hv3];exact zqa kX.out)
 have hY3 : Hid (v3.heap[w.heap.size + 1]? = some (.cells #[.int .i64 0,.int .i64 0,.int .i64 0,.slice none 0 0,.slice none 0 0,.slice none 0 0] 39 (0,0))):=hd_ (by rw [← hv3];exact zjp (by simp) kY.out)
 have hB3 : Hid (Below w.heap.size w v3):=hd_ (by rw [← hv3];exact kB.out.setCell (Nat.le_refl _) _)
 have hO1:=hd_ (show Ow v3 w.heap.size 103 7 (.slice C1 b.cs.length q1) (b.cs.map Chan.cells) by rw [← hv3];exact kO1.out.aside kX.out (by decide) _)
 have hO2:=hd_ (show Ow v3 w.heap.size 70 7 (.slice C2 b.hs.length q2) (b.hs.map Htlc.cells) by rw [← hv3];exact kO2.out.aside kX.out (by decide) _)
 have hO3:=hd_ (show Ow v3 w.heap.size 93 5 (.slice C3 b.os.length q3) (b.os.map Circle.cells) by rw [← hv3];exact kO3.out.aside kX.out (by decide) _)
 have hs3 : w3.heap.size = v3.heap.size:=by rw [← hv3];simp
 rw [hv3]
 try rw [hs3]
 clear hs3 hv3 kX kY kB xz kO1 kO2 kO3
 obtain ⟨_,x0,x1,x2,x3,x4,x5,xf,xz⟩:=own6 (Below.refl _ _) (gz_ hX3.out).1 hX3.out
 have yz:=(gz_ hY3.out).1
 obtain ⟨vr,hvr⟩ : ∃ v,(((((v3.setCell ⟨w.heap.size + 1,0,none⟩ (.int .i64 b.t)).setCell ⟨w.heap.size + 1,1,none⟩ (.int .i64 b.n)).setCell ⟨w.heap.size + 1,2,none⟩ (.int .i64 b.w)).setCell ⟨w.heap.size + 1,3,none⟩ (.slice C1 b.cs.length q1)).setCell ⟨w.heap.size + 1,4,none⟩ (.slice C2 b.hs.length q2)).setCell ⟨w.heap.size + 1,5,none⟩ (.slice C3 b.os.length q3) = v:=⟨_,rfl⟩
 have hR : Hid (vr.heap[w.heap.size + 1]? = some (.cells (bkC b C1 q1 C2 q2 C3 q3) 39 (0,0))):=hd_ (by rw [← hvr];exact zqa (zqa (zqa (zqa (zqa (zqa hY3.out))))))
 have hG : Hid (v3.grownBy vr (some (w.heap.size + 1))):=hd_ (by rw [← hvr];exact zqg (zqg (zqg (zqg (zqg (zqg (World.grownBy.refl v3 (some (w.heap.size + 1))) _ _) _ _) _ _) _ _) _ _) _ _)
 rw [hvr]
 clear hvr x0 x1 x2 x3 x4 x5 xf xz yz
 obtain ⟨_,y0,y1,y2,y3,y4,y5,yf,_⟩:=own6 (Below.refl _ _) (gz_ hR.out).1 hR.out
 refine bodyPost_ret (v:=.agg #[.int .i64 b.t,.int .i64 b.n,.int .i64 b.w,.slice C1 b.cs.length q1,.slice C2 b.hs.length q2,.slice C3 b.os.length q3]) (by simp [results,Tryz.results63,go_sem, *]) rfl ?_
 refine ⟨_,_,_,_,_,_,rfl,⟨hO1.out.grown hG.out (Or.inr (hO1.out.ne_ hY3.out (by decide)).symm),hO2.out.grown hG.out (Or.inr (hO2.out.ne_ hY3.out (by decide)).symm),hO3.out.grown hG.out (Or.inr (hO3.out.ne_ hY3.out (by decide)).symm)⟩,hB3.out.grown hG.out (by have:=hB3.out.size;omega) (fun k e => by injection e with e;omega)⟩
def OnlyX (X : Nat) (w w' : World) : Prop:=∀ k x,k ≠ X → w.heap[k]? = some x → w'.heap[k]? = some x
theorem OnlyX.refl (X : Nat) (w : World) : OnlyX X w w:=fun _ _ _ h => h
theorem OnlyX.set (X : Nat) (w : World) (i : Nat) (u : Value) : OnlyX X w (w.setCell ⟨X,i,none⟩ u):=fun _ _ hk h => zqb hk h
theorem OnlyX.of_below {X : Nat} {w w' : World} (hb : Below w.heap.size w w') : OnlyX X w w':=fun k _ _ h => (hb.block k (gz_ h).1).trans h
theorem OnlyX.trans {X : Nat} {w w' w'' : World} (h : OnlyX X w w') (h' : OnlyX X w' w'') : OnlyX X w w'':=fun k x hk hx => h' k x hk (h k x hk hx)
theorem zqy (w0 w : World) (B X : Nat) (b : Bk) (L : List Line) (A1 A2 A3 A4 : Option Addr) (p1 p2 p3 p4 : Nat) (c : Int) (hc : (c != 0) = true) (h : Wk 108 w0 w B X b L 0 A1 A2 A3 A4 p1 p2 p3 p4) :
  Calls Tryz.prog 64 #[.pointer (some ⟨X,0,none⟩),.bool true,.int .i64 c] w fun e w' => e = .returned (.bool true)∧Wk 108 w w' B X b L c A1 A2 A3 A4 p1 p2 p3 p4∧OnlyX X w w':=by
 have H:=hd_ h.here
 obtain ⟨ja,af,az⟩:=opc_ h.open_
 clear h
 go_enter Tryz.func64,Tryz.ntmps64
 go_wp2_with fail
 go_ret
 exact ⟨rfl,H.out.setCode (by decide) (by decide) (by decide) (by decide) c,OnlyX.set _ _ _ _⟩
theorem zqp (w0 w : World) (B X : Nat) (b : Bk) (L : List Line) (A1 A2 A3 A4 : Option Addr) (p1 p2 p3 p4 : Nat) (c : Int) (h : Wk 108 w0 w B X b L 0 A1 A2 A3 A4 p1 p2 p3 p4) :
  Calls Tryz.prog 64 #[.pointer (some ⟨X,0,none⟩),.bool false,.int .i64 c] w fun e w' => e = .returned (.bool false)∧w = w':=by
 obtain ⟨ja,af,az⟩:=opc_ h.open_
 clear h
 go_enter Tryz.func64,Tryz.ntmps64
 go_wp2_with fail
 go_ret
 exact ⟨rfl,rfl⟩
def Done (T : TypeId) (w : World) (B X : Nat) (b : Bk) (L : List Line) (code : Int) (e : Ending) (w' : World) : Prop :=
 ∃ (A1 A2 A3 A4 : Option Addr) (p1 p2 p3 p4 : Nat),e = .returned (.tuple #[])∧Wk T w w' B X b L code A1 A2 A3 A4 p1 p2 p3 p4
theorem zxo (w0 w : World) (B X : Nat) (b : Bk) (L : List Line) (code : Int) (A1 A2 A3 A4 : Option Addr) (p1 p2 p3 p4 : Nat) (k c a : Int) (hl : L.length ≤ 1000) (h : Wk 108 w0 w B X b L code A1 A2 A3 A4 p1 p2 p3 p4) :
  Calls Tryz.prog 66 #[.pointer (some ⟨X,0,none⟩),.int .i64 k,.int .i64 c,.int .i64 a] w (fun e w' => Done 108 w B X b (lineTo L k c a) code e w'∧OnlyX X w w'):=by
 have H:=hd_ h.here
 obtain ⟨ja,af,az⟩:=opc_ h.open_
 clear h
 by_cases ha : a = 0
 ·
  have HE:=hd_ (show lineTo L k c a = L by unfold lineTo;rw [if_pos ha])
  have ta : (a != 0) = false:=by rw [ha];rfl
  clear ha
  go_enter Tryz.func66,Tryz.ntmps66
  go_wp2_with fail
  go_end0
  rw [HE.out]
  exact ⟨⟨_,_,_,_,_,_,_,_,rfl,H.out⟩,OnlyX.refl _ _⟩
 have HE:=hd_ (show lineTo L k c a = addF ⟨k,c,a⟩ L by unfold lineTo;rw [if_neg ha])
 have ta : (a != 0) = true:=by rw [bne_iff_ne];exact ha
 clear ha
 go_enter Tryz.func66,Tryz.ntmps66
 go_wp2_with fail
 refine (s_l02Add L _ _ k c a _ (by omega) H.out.l.rd).mono ?_
 rintro e w1 ⟨A',cap',rfl,how,hb1⟩
 have H1:=hd_ (H.out.below hb1)
 have HL:=hd_ (how.more H.out.ble)
 have HO:=hd_ (OnlyX.of_below (X:=X) hb1)
 clear hb1 how ja af az
 obtain ⟨ja,af,az⟩:=opc_ H1.out.open_
 go_wp2_with fail
 go_end0
 rw [HE.out]
 exact ⟨⟨_,_,_,_,_,_,_,_,rfl,H1.out.setL (by decide) (by decide) (by decide) (by decide) HL.out⟩,HO.out.trans (OnlyX.set _ _ _ _)⟩
set_option maxRecDepth 100000 in
set_option maxHeartbeats 2000000 in
theorem zjh (w0 w : World) (B X : Nat) (b : Bk) (L : List Line) (code : Int) (A1 A2 A3 A4 : Option Addr) (p1 p2 p3 p4 : Nat) (ch dl dr : Int) (hcl : b.cs.length ≤ 1048576) (hix : 0 ≤ chanIx b.cs ch) (hb : (-1152921504606846976 ≤ (chanOf b.cs ch).Local∧(chanOf b.cs ch).Local ≤ 1152921504606846976)∧(-1152921504606846976 ≤ (chanOf b.cs ch).Remote∧(chanOf b.cs ch).Remote ≤ 1152921504606846976)) (hdl : -1152921504606846976 ≤ dl∧dl ≤ 1152921504606846976) (hdr : -1152921504606846976 ≤ dr∧dr ≤ 1152921504606846976) (h : Wk 108 w0 w B X b L code A1 A2 A3 A4 p1 p2 p3 p4) :
  Calls Tryz.prog 113 #[.pointer (some ⟨X,0,none⟩),.int .i64 ch,.int .i64 dl,.int .i64 dr] w (fun e w' => e = .returned (.tuple #[])∧Wk 108 w w' B X ⟨b.t,b.n,b.w,moveC b.cs ch dl dr,b.hs,b.os⟩ L code A1 A2 A3 A4 p1 p2 p3 p4∧∀ g,A1 = some ⟨g,0,none⟩ → OnlyX g w w'):=by
 obtain ⟨i,hi⟩:=Int.eq_ofNat_of_zero_le hix
 have hlt : i < b.cs.length:=zxm hi
 have hof : chanOf b.cs ch = b.cs[i]:=by
  unfold chanOf
  rw [hi,Int.toNat_natCast,List.getD_eq_getElem?_getD,List.getElem?_eq_getElem hlt]
  rfl
 rw [hof] at hb
 have hm : moveC b.cs ch dl dr = b.cs.set i (moveF dl dr b.cs[i]):=by
  unfold moveC setCh
  rw [hi,Int.toNat_natCast,zsb hlt]
 have HIX:=hd_ hi
 have hr : (b.cs.map Chan.cells)[i]? = some b.cs[i].cells:=by rw [List.getElem?_map,List.getElem?_eq_getElem hlt];rfl
 obtain ⟨c,hc⟩ : ∃ c,b.cs[i] = c:=⟨_,rfl⟩
 rw [hc] at hb hm hr
 obtain ⟨k0,k1,k2,k3,k4,k5,k6⟩:=c
 have HM:=hd_ (show moveC b.cs ch dl dr = b.cs.set i ⟨k0,k1,k2 + dl,k3 + dr,k4,k5,k6⟩ from hm)
 obtain ⟨g,rfl,hBg⟩:=h.o.c.headW (by rw [List.length_map];omega)
 have H:=hd_ h.here
 have HRow:=hd_ hr
 obtain ⟨⟨b1,b2⟩,b3,b4⟩:=hb
 obtain ⟨b5,b6⟩:=hdl
 obtain ⟨b7,b8⟩:=hdr
 simp only at b1 b2 b3 b4
 obtain ⟨ja,af,az⟩:=opc_ h.open_
 clear h hi hix hof hc hm hr
 have i0 : (0 : Int) ≤ (i : Int):=by omega
 have i1 : (i : Int) < (b.cs.length : Int):=by omega
 go_enter Tryz.func113,Tryz.ntmps113
 go_wp2_with fail
 refine (zjk b.t b.n b.w b.cs b.hs b.os _ _ _ _ _ _ ch _ hcl H.out.o.rd).mono ?_
 rintro e w1 ⟨rfl,hb1⟩
 rw [HIX.out]
 have H1:=hd_ (H.out.below hb1)
 have HG1:=hd_ (OnlyX.of_below (X:=g) hb1)
 clear hb1 ja af az
 obtain ⟨ja,af,az⟩:=opc_ H1.out.open_
 have c0:=H1.out.o.c.cellAt HRow (j:=0) (by decide)
 have c1:=H1.out.o.c.cellAt HRow (j:=1) (by decide)
 have c2:=H1.out.o.c.cellAt HRow (j:=2) (by decide)
 have c3:=H1.out.o.c.cellAt HRow (j:=3) (by decide)
 have c4:=H1.out.o.c.cellAt HRow (j:=4) (by decide)
 have c5:=H1.out.o.c.cellAt HRow (j:=5) (by decide)
 have c6:=H1.out.o.c.cellAt HRow (j:=6) (by decide)
 simp only [Chan.cells,List.getElem?_cons_zero,List.getElem?_cons_succ,Nat.add_zero] at c0 c1 c2 c3 c4 c5 c6
 go_wp2_with fail
 obtain ⟨Y,hY⟩ : ∃ Y,Y = w1.heap.size:=⟨_,rfl⟩
 obtain ⟨wy,hwy⟩ : ∃ v,w1.alloc (.cells #[.int .i64 k0,.int .i64 k1,.int .i64 (k2 + dl),.int .i64 (k3 + dr),.int .i64 k4,.int .i64 k5,.int .i64 k6] 103) = v:=⟨_,rfl⟩
 have Hy : Hid (Wk 108 w wy B X b L code (some ⟨g,0,none⟩) A2 A3 A4 p1 p2 p3 p4):=hd_ (by rw [← hwy];exact H1.out.alloc _)
 have HY : Hid (Hx wy Y (qaiiiiiii k0 k1 (k2 + dl) (k3 + dr) k4 k5 k6) 103):=hd_ (by rw [← hwy,hY];exact zqi rfl)
 have HG2 : Hid (OnlyX g w wy):=hd_ (by rw [← hwy];exact HG1.out.trans (OnlyX.of_below ((Below.refl _ _).alloc (Nat.le_refl _) _)))
 rw [hwy,← hY]
 clear HG1 hwy hY ja af az c0 c1 c2 c3 c4 c5 c6 H1
 refine wp_region_noPanic ?_
 refine zkh (S:=(fun w' => kqso w' X 3 (some ⟨g,0,none⟩) b.cs.length p1 (kqiiiiiii_ w' Y k0 k1 (k2 + dl) (k3 + dr) k4 k5 k6))) rfl (by kernel_rfl) (by kernel_rfl) (by kernel_rfl) (by kernel_rfl) ⟨Hy.out.open_.2.2.2.1,zqc HY 0,zqc HY 1,zqc HY 2,zqc HY 3,zqc HY 4,zqc HY 5,zqc HY 6⟩ (fun hH => ?_)
 obtain ⟨wd,hwd⟩ : ∃ wd,wy.drew = wd:=⟨_,rfl⟩
 have Hd:=wkd_ hwd Hy
 have HG3 : Hid (OnlyX g w wd):=hd_ (by rw [← hwd];exact HG2)
 rw [hwd] at hH ⊢
 clear hwd Hy HY HG2
 have c0:=Hd.out.o.c.cellAt HRow (j:=0) (by decide)
 have c1:=Hd.out.o.c.cellAt HRow (j:=1) (by decide)
 have c2:=Hd.out.o.c.cellAt HRow (j:=2) (by decide)
 have c3:=Hd.out.o.c.cellAt HRow (j:=3) (by decide)
 have c4:=Hd.out.o.c.cellAt HRow (j:=4) (by decide)
 have c5:=Hd.out.o.c.cellAt HRow (j:=5) (by decide)
 have c6:=Hd.out.o.c.cellAt HRow (j:=6) (by decide)
 simp only [Chan.cells,List.getElem?_cons_zero,List.getElem?_cons_succ,Nat.add_zero] at c0 c1 c2 c3 c4 c5 c6
 have cf:=fun j => Hd.out.o.c.frozenAt j
 simp only [List.dropLast]
 refine wpAnyH_take (i:=0) (v:=?v1) rfl (by kernel_rfl) (by kernel_rfl) (by kernel_rfl) (fun _ _ _ h => h) (Or.inl ⟨by rfl,?hy1⟩) (by assumption) ?rest1
 case hy1 => (intro w hSw;(try dsimp only at hSw);go_simp;(try with_reducible rfl))
 ((try simp only [Act.put]);(try simp only [List.setIfInBounds_toArray]);(repeat (first | simp only [List.set_cons_succ] | simp only [List.set_cons_zero])))
 refine wpAnyH_take (i:=1) (v:=?v2) rfl (by kernel_rfl) (by kernel_rfl) (by kernel_rfl) (fun _ _ _ h => h) (Or.inl ⟨by rfl,?hy2⟩) (by assumption) ?rest2
 case hy2 => (intro w hSw;(try dsimp only at hSw);go_simp;(try with_reducible rfl))
 ((try simp only [Act.put]);(try simp only [List.setIfInBounds_toArray]);(repeat (first | simp only [List.set_cons_succ] | simp only [List.set_cons_zero])))
 refine wpAnyH_take (i:=2) (v:=?v3) rfl (by kernel_rfl) (by kernel_rfl) (by kernel_rfl) (fun _ _ _ h => h) (Or.inl ⟨by rfl,?hy3⟩) (by assumption) ?rest3
 case hy3 => (intro w hSw;(try dsimp only at hSw);go_simp;(try with_reducible rfl))
 ((try simp only [Act.put]);(try simp only [List.setIfInBounds_toArray]);(repeat (first | simp only [List.set_cons_succ] | simp only [List.set_cons_zero])))
 refine wpAnyH_take (i:=3) (v:=?v4) rfl (by kernel_rfl) (by kernel_rfl) (by kernel_rfl) (fun _ _ _ h => h) (Or.inl ⟨by rfl,?hy4⟩) (by assumption) ?rest4
 case hy4 => (intro w hSw;(try dsimp only at hSw);go_simp;(try with_reducible rfl))
 ((try simp only [Act.put]);(try simp only [List.setIfInBounds_toArray]);(repeat (first | simp only [List.set_cons_succ] | simp only [List.set_cons_zero])))
 refine wpAnyH_take (i:=4) (v:=?v5) rfl (by kernel_rfl) (by kernel_rfl) (by kernel_rfl) (fun _ _ _ h => h) (Or.inl ⟨by rfl,?hy5⟩) (by assumption) ?rest5
 case hy5 => (intro w hSw;(try dsimp only at hSw);go_simp;(try with_reducible rfl))
 ((try simp only [Act.put]);(try simp only [List.setIfInBounds_toArray]);(repeat (first | simp only [List.set_cons_succ] | simp only [List.set_cons_zero])))
 refine wpAnyH_take (i:=5) (v:=?v6) rfl (by kernel_rfl) (by kernel_rfl) (by kernel_rfl) (fun _ _ _ h => h) (Or.inl ⟨by rfl,?hy6⟩) (by assumption) ?rest6
 case hy6 => (intro w hSw;(try dsimp only at hSw);go_simp;(try with_reducible rfl))
 ((try simp only [Act.put]);(try simp only [List.setIfInBounds_toArray]);(repeat (first | simp only [List.set_cons_succ] | simp only [List.set_cons_zero])))
 refine wpAnyH_take (i:=6) (v:=?v7) rfl (by kernel_rfl) (by kernel_rfl) (by kernel_rfl) (fun _ _ _ h => h) (Or.inl ⟨by rfl,?hy7⟩) (by assumption) ?rest7
 case hy7 => (intro w hSw;(try dsimp only at hSw);go_simp;(try with_reducible rfl))
 ((try simp only [Act.put]);(try simp only [List.setIfInBounds_toArray]);(repeat (first | simp only [List.set_cons_succ] | simp only [List.set_cons_zero])))
 refine wpAnyH_take (i:=7) (v:=?v8) rfl (by kernel_rfl) (by kernel_rfl) (by kernel_rfl) (fun _ _ _ h => h) (Or.inl ⟨by rfl,?hy8⟩) (by assumption) ?rest8
 case hy8 => (intro w hSw;(try dsimp only at hSw);go_simp;(try with_reducible rfl))
 ((try simp only [Act.put]);(try simp only [List.setIfInBounds_toArray]);(repeat (first | simp only [List.set_cons_succ] | simp only [List.set_cons_zero])))
 refine wpAnyH_done (by kernel_rfl) ?_ _
 intro KK hKK
 go_simp
 refine hKK _ _ (NoPanic.normal ?_)
 go_wp2_with fail
 go_end0
 rw [HM.out]
 refine ⟨rfl,H.out.trans (Hd.out.putChan (by decide) hlt ⟨k0,k1,k2 + dl,k3 + dr,k4,k5,k6⟩),fun g' hg' => ?_⟩
 injection hg' with hg'
 injection hg' with hg'
 subst hg'
 exact ((((((HG3.out.trans (OnlyX.set _ _ _ _)).trans (OnlyX.set _ _ _ _)).trans (OnlyX.set _ _ _ _)).trans (OnlyX.set _ _ _ _)).trans (OnlyX.set _ _ _ _)).trans (OnlyX.set _ _ _ _)).trans (OnlyX.set _ _ _ _)
end Go.Proofs.YtdbmkfmenfcbiaaGreat
namespace Go.Proofs.YtdbmkfmenfcbiaaGreat
open Go.RowKit Go.Deep
def Acts (T : TypeId) (w : World) (B X : Nat) (o : Out) (e : Ending) (w' : World) : Prop :=
 (o.code = 0∧∃ b',o.b = { b' with n:=if o.l = [] then b'.n else b'.n + 1 }∧Done T w B X b' o.l 0 e w') ∨ (o.code ≠ 0∧∃ b' L',Done T w B X b' L' o.code e w')
theorem Acts.ok {T : TypeId} {w w' : World} {B X : Nat} {e : Ending} {b' : Bk} {l : List Line} (h : Done T w B X b' l 0 e w') : Acts T w B X (done b' l) e w':=.inl ⟨rfl,b',rfl,h⟩
theorem Acts.no {T : TypeId} {w w' : World} {B X : Nat} {e : Ending} {b' : Bk} {L' : List Line} {c : Int} (hc : c ≠ 0) (h : Done T w B X b' L' c e w') : Acts T w B X (bad c) e w':=.inr ⟨hc,b',L',h⟩
theorem Done.trans {T : TypeId} {w0 w w' : World} {B X : Nat} {b b' : Bk} {L L' : List Line} {code code' : Int} {e : Ending} {A1 A2 A3 A4 : Option Addr} {p1 p2 p3 p4 : Nat} (h0 : Wk T w0 w B X b L code A1 A2 A3 A4 p1 p2 p3 p4) (h : Done T w B X b' L' code' e w') : Done T w0 B X b' L' code' e w':=by
 obtain ⟨C1,C2,C3,C4,q1,q2,q3,q4,he,h⟩:=h
 exact ⟨C1,C2,C3,C4,q1,q2,q3,q4,he,h0.trans h⟩
theorem zqu (l : List Line) (k c a : Int) : (lineTo l k c a).length ≤ l.length + 1:=by
 unfold lineTo
 split
 ·
  omega
 exact addF_len _ _
theorem zkg {α : Type} {l : List α} {p : α → Bool} {k : Nat} (hk : k < l.length) : (l.take (k + 1)).filter p = (l.take k).filter p ++ (if p l[k] = true then [l[k]] else []):=by
 rw [List.take_succ_eq_append_getElem hk,List.filter_append]
 congr 1
 rw [List.filter_cons]
 split <;> rfl
/-! ### a new channel -/
def stepI (one : Chan) (r : Bool × List Chan) (c : Chan) : Bool × List Chan:=if (!r.1 && decide (c.Id > one.Id)) = true then (true,r.2 ++ [one] ++ [c]) else (r.1,r.2 ++ [c])
def finI (one : Chan) (r : Bool × List Chan) : List Chan:=if r.1 = true then r.2 else r.2 ++ [one]
theorem zmo (one : Chan) : ∀ (cs o : List Chan),cs.foldl (stepI one) (true,o) = (true,o ++ cs)
 | [],o => by simp
 | c :: cs,o => by
  rw [List.foldl_cons,show stepI one (true,o) c = (true,o ++ [c]) from rfl,zmo one cs]
  simp
theorem zgv (one : Chan) : ∀ (cs o : List Chan),(∀ c ∈ cs,c.Id ≠ one.Id) → finI one (cs.foldl (stepI one) (false,o)) = o ++ insC one cs
 | [],o,_ => by simp [finI,insC]
 | c :: cs,o,h => by
  rw [List.foldl_cons]
  have hc:=h c (by simp)
  by_cases h1 : one.Id < c.Id
  ·
   rw [show stepI one (false,o) c = (true,o ++ [one] ++ [c]) by simp [stepI,h1],zmo]
   have h2 : ¬ c.Id < one.Id:=by omega
   simp [finI,insC,h2]
  rw [show stepI one (false,o) c = (false,o ++ [c]) by simp [stepI,h1],zgv one cs _ (fun x hx => h x (by simp [hx]))]
  have h2 : c.Id < one.Id:=by omega
  simp [insC,h2]
theorem chanIx_neg {cs : List Chan} {ch : Int} (h : chanIx cs ch < 0) : ∀ c ∈ cs,c.Id ≠ ch:=by
 intro c hc he
 unfold chanIx at h
 split at h
 ·
  omega
 rename_i hn
 rw [List.findIdx?_eq_none_iff] at hn
 have:=hn c hc
 simp [notId,he] at this
theorem zso (one : Chan) : ∀ (cs : List Chan) (r : Bool × List Chan),(cs.foldl (stepI one) r).2.length ≤ r.2.length + 2 * cs.length
 | [],r => by simp
 | c :: cs,r => by
  rw [List.foldl_cons]
  have h1:=zso one cs (stepI one r c)
  have h2 : (stepI one r c).2.length ≤ r.2.length + 2:=by
   unfold stepI
   split <;> simp
  rw [List.length_cons]
  omega
/-! ### moves of channels -/
def Bd (n : Int) (cs : List Chan) : Prop:=∀ c ∈ cs,(-n ≤ c.Local∧c.Local ≤ n)∧(-n ≤ c.Remote∧c.Remote ≤ n)
theorem Bd.modify {n m : Int} {cs : List Chan} (h : Bd n cs) (i : Nat) (f : Chan → Chan) (hf : ∀ c,(-n ≤ c.Local∧c.Local ≤ n)∧(-n ≤ c.Remote∧c.Remote ≤ n) → (-m ≤ (f c).Local∧(f c).Local ≤ m)∧(-m ≤ (f c).Remote∧(f c).Remote ≤ m)) (hnm : n ≤ m) : Bd m (cs.modify i f):=by
 intro c hc
 obtain ⟨j,hj,rfl⟩:=List.mem_iff_getElem.1 hc
 rw [List.getElem_modify]
 have hj' : j < cs.length:=by rw [List.length_modify] at hj;exact hj
 have h1:=h _ (List.getElem_mem hj')
 split
 ·
  exact hf _ h1
 omega
theorem Bd.move {n k : Int} {cs : List Chan} (h : Bd n cs) (ch dl dr : Int) (h1 : -k ≤ dl∧dl ≤ k) (h2 : -k ≤ dr∧dr ≤ k) : Bd (n + k) (moveC cs ch dl dr) :=
 Bd.modify h _ (moveF dl dr) (fun c hc => by simp only [moveF];omega) (by omega)
theorem chanOf_mem {cs : List Chan} {ch : Int} (h : 0 ≤ chanIx cs ch) : chanOf cs ch ∈ cs:=by
 obtain ⟨i,hi⟩:=Int.eq_ofNat_of_zero_le h
 have hlt:=zxm hi
 unfold chanOf
 rw [hi,Int.toNat_natCast,List.getD_eq_getElem?_getD,List.getElem?_eq_getElem hlt]
 exact List.getElem_mem hlt
theorem zmv (cs : List Chan) (i : Nat) (f : Chan → Chan) (hf : ∀ c,(f c).Id = c.Id) (ch : Int) : chanIx (cs.modify i f) ch = chanIx cs ch:=by
 have h : ∀ (cs : List Chan) (i : Nat),(cs.modify i f).findIdx? (fun c => !notId ch c) = cs.findIdx? (fun c => !notId ch c):=by
  intro cs
  induction cs with
  | nil => intro i;simp
  | cons c cs ih =>
   intro i
   cases i with
   | zero => simp [List.findIdx?_cons,notId,hf]
   | succ i => simp [List.findIdx?_cons,ih]
 unfold chanIx
 rw [h]
theorem zxn (cs : List Chan) (a dl dr ch : Int) : chanIx (moveC cs a dl dr) ch = chanIx cs ch:=zmv cs _ (moveF dl dr) (fun _ => rfl) ch
theorem zxg (cs : List Chan) (a dl dr : Int) : (moveC cs a dl dr).length = cs.length:=by
 unfold moveC setCh
 rw [List.length_modify]
theorem Bd.at_ {n : Int} {cs : List Chan} (h : Bd n cs) {ch : Int} (hix : 0 ≤ chanIx cs ch) : (-n ≤ (chanOf cs ch).Local∧(chanOf cs ch).Local ≤ n)∧(-n ≤ (chanOf cs ch).Remote∧(chanOf cs ch).Remote ≤ n):=h _ (chanOf_mem hix)
theorem zkv {cs : List Chan} {ch : Int} {i : Nat} (hi : chanIx cs ch = (i : Int)) (hlt : i < cs.length) (f : Chan → Chan) : setCh cs ch f = cs.set i (f cs[i]):=by
 unfold setCh
 rw [hi,Int.toNat_natCast,zsb hlt]
theorem zjd {bt bn bw : Int} {cs : List Chan} {hs : List Htlc} {os : List Circle} (h : BookFacts bt bn bw cs hs os) : Bd 1125899906842624 cs:=by
 intro c hc
 obtain ⟨j,hj,rfl⟩:=List.mem_iff_getElem.1 hc
 have h1:=h.ch j hj
 simp only [chB,Bool.and_eq_true,zja] at h1
 omega
section
variable {T : TypeId} {w0 w : World} {B X : Nat} {b : Bk} {L : List Line} {code : Int} {A1 A2 A3 A4 : Option Addr} {p1 p2 p3 p4 : Nat}
theorem Wk.putCell {g i j : Nat} {c' : Chan} {u : Value} (h : Wk T w0 w B X b L code (some ⟨g,0,none⟩) A2 A3 A4 p1 p2 p3 p4) (hT1 : 103 ≠ T) (hi : i < b.cs.length) (hj : j < 7) (hc : c'.cells = b.cs[i].cells.set j u) :
  Wk T w0 (w.setCell ⟨g,i * 7 + j,none⟩ u) B X ⟨b.t,b.n,b.w,b.cs.set i c',b.hs,b.os⟩ L code (some ⟨g,0,none⟩) A2 A3 A4 p1 p2 p3 p4:=by
 have hg:=zqg (World.grownBy.refl w (some g)) (i * 7 + j) u
 obtain ⟨cur,hh⟩:=h.o.c.heapW
 have hr : (b.cs.map Chan.cells)[i]? = some b.cs[i].cells:=by rw [List.getElem?_map,List.getElem?_eq_getElem hi];rfl
 have h7:=h.o.c.stored hr hj u
 have hgX : some X ≠ some g:=fun e => by
  injection e with e
  subst e
  rw [h.x] at hh
  injection hh with hh
  injection hh with _ hh
  exact hT1 hh.symm
 have hBg : B ≤ g:=(h.o.c.block g (by simp [Value.ownBlock])).1
 refine ⟨?_,⟨?_,?_,?_⟩,?_,?_,?_,h.bx⟩
 ·
  rw [List.length_set]
  exact zqe hg hgX h.x
 ·
  rw [List.length_set,zhe,hc]
  exact h7
 ·
  exact h.o.h.grown hg (Or.inr (h.o.h.ne_ hh (by decide)).symm)
 ·
  exact h.o.o.grown hg (Or.inr (h.o.o.ne_ hh (by decide)).symm)
 ·
  exact h.l.grown hg (Or.inr (h.l.ne_ hh (by decide)).symm)
 ·
  exact h.b.grown hg h.ble (fun k e => by injection e with e;omega)
 intro k cs t h1 h2
 have h3:=h.f k cs t h1 h2
 refine zqe hg ?_ h3
 intro e
 injection e with e
 subst e
 rw [hh] at h3
 injection h3 with h3
 injection h3 with _ h3
 exact h2 (by rw [← h3];simp [wkTs])
end
/-! ### a list that is mapped place by place -/
def mapTo {α : Type} (f : α → α) (l : List α) (k : Nat) : List α:=(l.take k).map f ++ l.drop k
theorem zkl {α : Type} (f : α → α) (l : List α) : mapTo f l 0 = l:=by simp [mapTo]
theorem zkp {α : Type} (f : α → α) (l : List α) (k : Nat) : (mapTo f l k).length = l.length:=by simp [mapTo];omega
theorem zkz {α : Type} (f : α → α) (l : List α) : mapTo f l l.length = l.map f:=by simp [mapTo]
theorem zjq {α : Type} (f : α → α) {l : List α} {k : Nat} (h : k < l.length) : (mapTo f l k)[k]? = some l[k]:=by
 unfold mapTo
 rw [List.getElem?_append_right (by simp;omega)]
 simp only [List.length_map,List.length_take,Nat.min_eq_left (Nat.le_of_lt h),Nat.sub_self,List.getElem?_drop,Nat.add_zero]
 exact List.getElem?_eq_getElem h
theorem zkq {α : Type} (f : α → α) {l : List α} {k : Nat} (h : k < l.length) : (mapTo f l k).set k (f l[k]) = mapTo f l (k + 1):=by
 unfold mapTo
 have e1 : l.drop k = l[k] :: l.drop (k + 1):=List.drop_eq_getElem_cons h
 rw [List.set_append_right _ _ (by simp;omega),e1]
 simp only [List.length_map,List.length_take,Nat.min_eq_left (Nat.le_of_lt h),Nat.sub_self,List.set_cons_zero]
 rw [List.take_succ_eq_append_getElem h,List.map_append,List.append_assoc]
 rfl
theorem zmh {α : Type} (f : α → α) {l : List α} {k : Nat} (h : k < l.length) (hf : f l[k] = l[k]) : mapTo f l k = mapTo f l (k + 1):=by
 rw [← zkq f h,hf]
 apply List.ext_getElem?
 intro j
 rw [List.getElem?_set]
 by_cases hj : k = j
 ·
  subst hj
  rw [zjq f h]
  simp [zkp,h]
 simp [hj]
section
variable {T : TypeId} {w0 w : World} {B X : Nat} {b : Bk} {L : List Line} {code : Int} {A1 A2 A3 A4 : Option Addr} {p1 p2 p3 p4 : Nat}
theorem Wk.putCellH {g i j : Nat} {c c' : Htlc} {u : Value} (h : Wk T w0 w B X b L code A1 (some ⟨g,0,none⟩) A3 A4 p1 p2 p3 p4) (hT1 : 70 ≠ T) (hi : b.hs[i]? = some c) (hj : j < 7) (hc : c'.cells = c.cells.set j u) :
  Wk T w0 (w.setCell ⟨g,i * 7 + j,none⟩ u) B X ⟨b.t,b.n,b.w,b.cs,b.hs.set i c',b.os⟩ L code A1 (some ⟨g,0,none⟩) A3 A4 p1 p2 p3 p4:=by
 have hg:=zqg (World.grownBy.refl w (some g)) (i * 7 + j) u
 obtain ⟨cur,hh⟩:=h.o.h.heapW
 have hr : (b.hs.map Htlc.cells)[i]? = some c.cells:=by rw [List.getElem?_map,hi];rfl
 have h7:=h.o.h.stored hr hj u
 have hgX : some X ≠ some g:=fun e => by
  injection e with e
  subst e
  rw [h.x] at hh
  injection hh with hh
  injection hh with _ hh
  exact hT1 hh.symm
 have hBg : B ≤ g:=(h.o.h.block g (by simp [Value.ownBlock])).1
 refine ⟨?_,⟨?_,?_,?_⟩,?_,?_,?_,h.bx⟩
 ·
  rw [List.length_set]
  exact zqe hg hgX h.x
 ·
  exact h.o.c.grown hg (Or.inr (h.o.c.ne_ hh (by decide)).symm)
 ·
  rw [List.length_set,List.map_set,hc]
  exact h7
 ·
  exact h.o.o.grown hg (Or.inr (h.o.o.ne_ hh (by decide)).symm)
 ·
  exact h.l.grown hg (Or.inr (h.l.ne_ hh (by decide)).symm)
 ·
  exact h.b.grown hg h.ble (fun k e => by injection e with e;omega)
 intro k cs t h1 h2
 have h3:=h.f k cs t h1 h2
 refine zqe hg ?_ h3
 intro e
 injection e with e
 subst e
 rw [hh] at h3
 injection h3 with h3
 injection h3 with _ h3
 exact h2 (by rw [← h3];simp [wkTs])
theorem Wk.putCellC {g i j : Nat} {c c' : Chan} {u : Value} (h : Wk T w0 w B X b L code (some ⟨g,0,none⟩) A2 A3 A4 p1 p2 p3 p4) (hT1 : 103 ≠ T) (hi : b.cs[i]? = some c) (hj : j < 7) (hc : c'.cells = c.cells.set j u) :
  Wk T w0 (w.setCell ⟨g,i * 7 + j,none⟩ u) B X ⟨b.t,b.n,b.w,b.cs.set i c',b.hs,b.os⟩ L code (some ⟨g,0,none⟩) A2 A3 A4 p1 p2 p3 p4:=by
 obtain ⟨hlt,hci⟩:=List.getElem?_eq_some_iff.1 hi
 exact h.putCell hT1 hlt hj (by rw [hci];exact hc)
theorem Wk.appO (h : Wk T w0 w B X b L code A1 A2 A3 A4 p1 p2 p3 p4) (hT1 : 103 ≠ T) (hT2 : 70 ≠ T) (hT3 : 93 ≠ T) (hT4 : 99 ≠ T) {x : World} {g cap : Nat} {c : Circle} (how : Ow x B 93 5 (.slice (some ⟨g,0,none⟩) ((b.os.map Circle.cells).length + 1) cap) (b.os.map Circle.cells ++ [c.cells])) (hgr : w.grownBy x (Value.slice A3 b.os.length p3).ownBlock) :
  x.heap[X]? = some (.cells #[.int .i64 b.t,.int .i64 b.n,.int .i64 b.w,.slice A1 b.cs.length p1,.slice A2 b.hs.length p2,.slice A3 b.os.length p3,.slice A4 L.length p4,.int .i64 code] T (0,0)) ∧
   Wk T w0 (x.setCell ⟨X,5,none⟩ (.slice (some ⟨g,0,none⟩) (b.os.length + 1) cap)) B X ⟨b.t,b.n,b.w,b.cs,b.hs,b.os ++ [c]⟩ L code A1 A2 (some ⟨g,0,none⟩) A4 p1 p2 cap p4:=by
 have hx:=zqe hgr (h.o.o.ne_ h.x hT3) h.x
 have e1 : b.os.length + 1 = (b.os ++ [c]).length:=by simp
 have how' : Ow x B 93 5 (.slice (some ⟨g,0,none⟩) (b.os ++ [c]).length cap) ((b.os ++ [c]).map Circle.cells):=by
  rw [← e1,List.map_append]
  rw [List.length_map] at how
  exact how
 refine ⟨hx,⟨?_,⟨(h.o.c.apart_ h.o.o (by decide) hgr).aside hx hT1 _,(h.o.h.apart_ h.o.o (by decide) hgr).aside hx hT2 _,by rw [e1];exact how'.aside hx hT3 _⟩,(h.l.apart_ h.o.o (by decide) hgr).aside hx hT4 _,(h.b.grown hgr h.ble (fun k e => (h.o.o.block k e).1)).setCell h.bx _,(h.f.grown h.o.o (by simp [wkTs]) hgr).set hx (by simp [wkTs]) _,h.bx⟩⟩
 have h9:=zqa (i:=5) (u:=.slice (some ⟨g,0,none⟩) (b.os ++ [c]).length cap) hx
 rw [e1]
 exact h9
theorem Wk.appH (h : Wk T w0 w B X b L code A1 A2 A3 A4 p1 p2 p3 p4) (hT1 : 103 ≠ T) (hT2 : 70 ≠ T) (hT3 : 93 ≠ T) (hT4 : 99 ≠ T) {x : World} {g cap : Nat} {c : Htlc} (how : Ow x B 70 7 (.slice (some ⟨g,0,none⟩) ((b.hs.map Htlc.cells).length + 1) cap) (b.hs.map Htlc.cells ++ [c.cells])) (hgr : w.grownBy x (Value.slice A2 b.hs.length p2).ownBlock) :
  x.heap[X]? = some (.cells #[.int .i64 b.t,.int .i64 b.n,.int .i64 b.w,.slice A1 b.cs.length p1,.slice A2 b.hs.length p2,.slice A3 b.os.length p3,.slice A4 L.length p4,.int .i64 code] T (0,0)) ∧
   Wk T w0 (x.setCell ⟨X,4,none⟩ (.slice (some ⟨g,0,none⟩) (b.hs.length + 1) cap)) B X ⟨b.t,b.n,b.w,b.cs,b.hs ++ [c],b.os⟩ L code A1 (some ⟨g,0,none⟩) A3 A4 p1 cap p3 p4:=by
 have hx:=zqe hgr (h.o.h.ne_ h.x hT2) h.x
 have e1 : b.hs.length + 1 = (b.hs ++ [c]).length:=by simp
 have how' : Ow x B 70 7 (.slice (some ⟨g,0,none⟩) (b.hs ++ [c]).length cap) ((b.hs ++ [c]).map Htlc.cells):=by
  rw [← e1,List.map_append]
  rw [List.length_map] at how
  exact how
 refine ⟨hx,⟨?_,⟨(h.o.c.apart_ h.o.h (by decide) hgr).aside hx hT1 _,by rw [e1];exact how'.aside hx hT2 _,(h.o.o.apart_ h.o.h (by decide) hgr).aside hx hT3 _⟩,(h.l.apart_ h.o.h (by decide) hgr).aside hx hT4 _,(h.b.grown hgr h.ble (fun k e => (h.o.h.block k e).1)).setCell h.bx _,(h.f.grown h.o.h (by simp [wkTs]) hgr).set hx (by simp [wkTs]) _,h.bx⟩⟩
 have h9:=zqa (i:=4) (u:=.slice (some ⟨g,0,none⟩) (b.hs ++ [c]).length cap) hx
 rw [e1]
 exact h9
end
section
variable {T : TypeId} {w0 w w' : World} {B X : Nat} {b : Bk} {L : List Line} {code : Int} {A1 A2 A3 A4 : Option Addr} {p1 p2 p3 p4 : Nat}
theorem Wk.ownBox {g C : Nat} {cells : Array Value} (h : Wk T w0 w B X b L code (some ⟨g,0,none⟩) A2 A3 A4 p1 p2 p3 p4) (hX : C ≠ X) (hg : g ≠ C) (hB : B ≤ C) (hC : w.heap[C]? = some (.cells cells 103 (0,0))) (hgr : w.grownBy w' (some C)) : Wk T w0 w' B X b L code (some ⟨g,0,none⟩) A2 A3 A4 p1 p2 p3 p4:=by
 refine ⟨zqe hgr (fun e => hX (Option.some.inj e).symm) h.x,⟨h.o.c.grown hgr (Or.inr (fun e => hg (by simpa [Value.ownBlock] using e))),h.o.h.grown hgr (Or.inr (h.o.h.ne_ hC (by decide)).symm),h.o.o.grown hgr (Or.inr (h.o.o.ne_ hC (by decide)).symm)⟩,h.l.grown hgr (Or.inr (h.l.ne_ hC (by decide)).symm),h.b.grown hgr h.ble (fun k e => by injection e with e;omega),?_,h.bx⟩
 intro k cs t h1 h2
 have h3:=h.f k cs t h1 h2
 refine zqe hgr ?_ h3
 intro e
 injection e with e
 subst e
 rw [hC] at h3
 injection h3 with h3
 injection h3 with _ h3
 exact h2 (by rw [← h3];simp [wkTs])
end
theorem own8 {w : World} {X : Nat} {T : TypeId} {u0 u1 u2 u3 u4 u5 u6 u7 : Value} (h : w.heap[X]? = some (.cells #[u0,u1,u2,u3,u4,u5,u6,u7] T (0,0))) : True∧w.cell? ⟨X,0,none⟩ = some u0∧w.cell? ⟨X,1,none⟩ = some u1∧w.cell? ⟨X,2,none⟩ = some u2∧w.cell? ⟨X,3,none⟩ = some u3∧w.cell? ⟨X,4,none⟩ = some u4∧w.cell? ⟨X,5,none⟩ = some u5∧w.cell? ⟨X,6,none⟩ = some u6∧w.cell? ⟨X,7,none⟩ = some u7∧(∀ i,w.frozen? ⟨X,i,none⟩ = false)∧X < w.heap.size :=
 ⟨trivial,zqc h 0,zqc h 1,zqc h 2,zqc h 3,zqc h 4,zqc h 5,zqc h 6,zqc h 7,zqm h,(gz_ h).1⟩
set_option maxRecDepth 100000 in
set_option maxHeartbeats 4000000 in
theorem zmb (b : Bk) (A1 A2 A3 : Option Addr) (p1 p2 p3 : Nat) (w : World) (l1 : b.cs.length ≤ 1048576) (l2 : b.hs.length ≤ 1048576) (l3 : b.os.length ≤ 1048576) (hr : RdBook w w.heap.size A1 b.cs A2 b.hs A3 b.os) :
  Calls Tryz.prog 43 #[.agg #[.int .i64 b.t,.int .i64 b.n,.int .i64 b.w,.slice A1 b.cs.length p1,.slice A2 b.hs.length p2,.slice A3 b.os.length p3]] w (CopyP w b):=by
 obtain ⟨i0,hi,hz0,hz1,hz2⟩:=info_parts zjx
 obtain ⟨j0,hj,hy0,hy1,hy2⟩:=info_parts zjy
 obtain ⟨k0,hk,hx0,hx1,hx2⟩:=info_parts zjn
 have HI0:=hd_ hi
 have HI1:=hd_ hz0
 have HI2:=hd_ hz1
 have HI3:=hd_ hz2
 have HJ0:=hd_ hj
 have HJ1:=hd_ hy0
 have HJ2:=hd_ hy1
 have HJ3:=hd_ hy2
 have HK0:=hd_ hk
 have HK1:=hd_ hx0
 have HK2:=hd_ hx1
 have HK3:=hd_ hx2
 have HR:=hd_ hr
 clear hi hz0 hz1 hz2 hj hy0 hy1 hy2 hk hx0 hx1 hx2 hr
 go_enter Tryz.func43,Tryz.ntmps43
 go_wp2_with (at_builtin;refine Stop.go ?_)
 refine Stop.on ?_
 refine zkb rfl _ _ _ rfl w.heap.size 103 i0 _ 7 56 Tryz.underlying35 HI0 HI1 HI2 HI3 rfl (by decide) _ _ [] 0 rfl (by rfl) Ow.nil_ A1 p1 (b.cs.map Chan.cells) b.cs.length (by rw [List.length_map]) (by rfl) w.heap.size (HR.out.c.below (bl_)) (zkd b.cs) (by rw [List.length_map];simp only [List.length_nil];omega) (by decide) (by first | omega | (simp;done) | (simp;omega)) ?_
 intro C1 q1 w1 how1 hb1 hg1
 simp only [Nat.zero_add,List.nil_append] at how1 ⊢
 have kX : Hid (w1.heap[w.heap.size]? = some (.cells (bkC b A1 p1 A2 p2 A3 p3) 39 (0,0))):=hd_ (zqe hg1 (by first | (simp [Value.ownBlock];done) | (simp [Value.ownBlock];omega)) (zqd (by simp) (zqi rfl)))
 have kY : Hid (w1.heap[w.heap.size + 1]? = some (.cells #[.int .i64 0,.int .i64 0,.int .i64 0,.slice none 0 0,.slice none 0 0,.slice none 0 0] 39 (0,0))):=hd_ (zqe hg1 (by first | (simp [Value.ownBlock];done) | (simp [Value.ownBlock];omega)) (zqi (by simp)))
 have kB : Hid (Below w.heap.size w w1):=hd_ (bl_)
 have kO1:=hd_ how1
 clear how1 hb1 hg1
 obtain ⟨_,x0,x1,x2,x3,x4,x5,xf,xz⟩:=own6 (Below.refl _ _) (gz_ kX.out).1 kX.out
 obtain ⟨_,y0,y1,y2,y3,y4,y5,yf,_⟩:=own6 (Below.refl _ _) (gz_ kY.out).1 kY.out
 go_wp2_with (at_builtin;refine Stop.go ?_)
 refine Stop.on ?_
 clear x0 x1 x2 x3 x4 x5 xf y0 y1 y2 y3 y4 y5 yf
 obtain ⟨v1,hv1⟩ : ∃ v,w1.setCell ⟨w.heap.size,3,none⟩ (.slice C1 b.cs.length q1) = v:=⟨_,rfl⟩
 have hX1 : Hid (v1.heap[w.heap.size]? = some (.cells (bkC b C1 q1 A2 p2 A3 p3) 39 (0,0))):=hd_ (by rw [← hv1];exact zqa kX.out)
 have hY1 : Hid (v1.heap[w.heap.size + 1]? = some (.cells #[.int .i64 0,.int .i64 0,.int .i64 0,.slice none 0 0,.slice none 0 0,.slice none 0 0] 39 (0,0))):=hd_ (by rw [← hv1];exact zjp (by simp) kY.out)
 have hB1 : Hid (Below w.heap.size w v1):=hd_ (by rw [← hv1];exact kB.out.setCell (Nat.le_refl _) _)
 have hO1:=hd_ (show Ow v1 w.heap.size 103 7 (.slice C1 b.cs.length q1) (b.cs.map Chan.cells) by rw [← hv1];exact kO1.out.aside kX.out (by decide) _)
 have hs1 : w1.heap.size = v1.heap.size:=by rw [← hv1];simp
 rw [hv1]
 try rw [hs1]
 clear hs1 hv1 kX kY kB xz kO1
 obtain ⟨_,x0,x1,x2,x3,x4,x5,xf,xz⟩:=own6 (Below.refl _ _) (gz_ hX1.out).1 hX1.out
 have yz:=(gz_ hY1.out).1
 refine zkb rfl _ _ _ rfl w.heap.size 70 j0 _ 7 56 Tryz.underlying36 HJ0 HJ1 HJ2 HJ3 rfl (by decide) _ _ [] 0 rfl (by rfl) Ow.nil_ A2 p2 (b.hs.map Htlc.cells) b.hs.length (by rw [List.length_map]) (by rfl) w.heap.size (HR.out.h.below (bl_)) (zha b.hs) (by rw [List.length_map];simp only [List.length_nil];omega) (by decide) (by first | omega | (simp;done) | (simp;omega)) ?_
 intro C2 q2 w2 how2 hb2 hg2
 simp only [Nat.zero_add,List.nil_append] at how2 ⊢
 have kX : Hid (w2.heap[w.heap.size]? = some (.cells (bkC b C1 q1 A2 p2 A3 p3) 39 (0,0))):=hd_ (zqe hg2 (by first | (simp [Value.ownBlock];done) | (simp [Value.ownBlock];omega)) hX1.out)
 have kY : Hid (w2.heap[w.heap.size + 1]? = some (.cells #[.int .i64 0,.int .i64 0,.int .i64 0,.slice none 0 0,.slice none 0 0,.slice none 0 0] 39 (0,0))):=hd_ (zqe hg2 (by first | (simp [Value.ownBlock];done) | (simp [Value.ownBlock];omega)) hY1.out)
 have kB : Hid (Below w.heap.size w w2):=hd_ (bl_)
 have kO1:=hd_ (hO1.out.below ⟨hg2.os,hg2.tape,hg2.output,hg2.size,fun k9 h9 => hg2.block k9 h9 (by simp [Value.ownBlock])⟩)
 clear xf xz yz x0 x1 x2 x3 x4 x5 hO1 hX1 hY1 hB1
 have kO2:=hd_ how2
 clear how2 hb2 hg2
 obtain ⟨_,x0,x1,x2,x3,x4,x5,xf,xz⟩:=own6 (Below.refl _ _) (gz_ kX.out).1 kX.out
 obtain ⟨_,y0,y1,y2,y3,y4,y5,yf,_⟩:=own6 (Below.refl _ _) (gz_ kY.out).1 kY.out
 go_wp2_with (at_builtin;refine Stop.go ?_)
 refine Stop.on ?_
 clear x0 x1 x2 x3 x4 x5 xf y0 y1 y2 y3 y4 y5 yf
 obtain ⟨v2,hv2⟩ : ∃ v,w2.setCell ⟨w.heap.size,4,none⟩ (.slice C2 b.hs.length q2) = v:=⟨_,rfl⟩
 have hX2 : Hid (v2.heap[w.heap.size]? = some (.cells (bkC b C1 q1 C2 q2 A3 p3) 39 (0,0))):=hd_ (by rw [← hv2];exact zqa kX.out)
 have hY2 : Hid (v2.heap[w.heap.size + 1]? = some (.cells #[.int .i64 0,.int .i64 0,.int .i64 0,.slice none 0 0,.slice none 0 0,.slice none 0 0] 39 (0,0))):=hd_ (by rw [← hv2];exact zjp (by simp) kY.out)
 have hB2 : Hid (Below w.heap.size w v2):=hd_ (by rw [← hv2];exact kB.out.setCell (Nat.le_refl _) _)
 have hO1:=hd_ (show Ow v2 w.heap.size 103 7 (.slice C1 b.cs.length q1) (b.cs.map Chan.cells) by rw [← hv2];exact kO1.out.aside kX.out (by decide) _)
 have hO2:=hd_ (show Ow v2 w.heap.size 70 7 (.slice C2 b.hs.length q2) (b.hs.map Htlc.cells) by rw [← hv2];exact kO2.out.aside kX.out (by decide) _)
 have hs2 : w2.heap.size = v2.heap.size:=by rw [← hv2];simp
 rw [hv2]
 try rw [hs2]
 clear hs2 hv2 kX kY kB xz kO1 kO2
 obtain ⟨_,x0,x1,x2,x3,x4,x5,xf,xz⟩:=own6 (Below.refl _ _) (gz_ hX2.out).1 hX2.out
 have yz:=(gz_ hY2.out).1
 refine zkb rfl _ _ _ rfl w.heap.size 93 k0 _ 5 40 Tryz.underlying37 HK0 HK1 HK2 HK3 rfl (by decide) _ _ [] 0 rfl (by rfl) Ow.nil_ A3 p3 (b.os.map Circle.cells) b.os.length (by rw [List.length_map]) (by rfl) w.heap.size (HR.out.o.below (bl_)) (zvc b.os) (by rw [List.length_map];simp only [List.length_nil];omega) (by decide) (by first | omega | (simp;done) | (simp;omega)) ?_
 intro C3 q3 w3 how3 hb3 hg3
 simp only [Nat.zero_add,List.nil_append] at how3 ⊢
 have kX : Hid (w3.heap[w.heap.size]? = some (.cells (bkC b C1 q1 C2 q2 A3 p3) 39 (0,0))):=hd_ (zqe hg3 (by first | (simp [Value.ownBlock];done) | (simp [Value.ownBlock];omega)) hX2.out)
 have kY : Hid (w3.heap[w.heap.size + 1]? = some (.cells #[.int .i64 0,.int .i64 0,.int .i64 0,.slice none 0 0,.slice none 0 0,.slice none 0 0] 39 (0,0))):=hd_ (zqe hg3 (by first | (simp [Value.ownBlock];done) | (simp [Value.ownBlock];omega)) hY2.out)
 have kB : Hid (Below w.heap.size w w3):=hd_ (bl_)
 have kO1:=hd_ (hO1.out.below ⟨hg3.os,hg3.tape,hg3.output,hg3.size,fun k9 h9 => hg3.block k9 h9 (by simp [Value.ownBlock])⟩)
 have kO2:=hd_ (hO2.out.below ⟨hg3.os,hg3.tape,hg3.output,hg3.size,fun k9 h9 => hg3.block k9 h9 (by simp [Value.ownBlock])⟩)
 clear xf xz yz x0 x1 x2 x3 x4 x5 hO1 hO2 hX2 hY2 hB2
 have kO3:=hd_ how3
 clear how3 hb3 hg3
 obtain ⟨_,x0,x1,x2,x3,x4,x5,xf,xz⟩:=own6 (Below.refl _ _) (gz_ kX.out).1 kX.out
 obtain ⟨_,y0,y1,y2,y3,y4,y5,yf,_⟩:=own6 (Below.refl _ _) (gz_ kY.out).1 kY.out
 go_wp2_with (at_builtin;refine Stop.go ?_)
 clear x0 x1 x2 x3 x4 x5 xf y0 y1 y2 y3 y4 y5 yf
 obtain ⟨v3,hv3⟩ : ∃ v,w3.setCell ⟨w.heap.size,5,none⟩ (.slice C3 b.os.length q3) = v:=⟨_,rfl⟩
 have hX3 : Hid (v3.heap[w.heap.size]? = some (.cells (bkC b C1 q1 C2 q2 C3 q3) 39 (0,0))):=hd_ (by rw [← hv3];exact zqa kX.out)
 have hY3 : Hid (v3.heap[w.heap.size + 1]? = some (.cells #[.int .i64 0,.int .i64 0,.int .i64 0,.slice none 0 0,.slice none 0 0,.slice none 0 0] 39 (0,0))):=hd_ (by rw [← hv3];exact zjp (by simp) kY.out)
 have hB3 : Hid (Below w.heap.size w v3):=hd_ (by rw [← hv3];exact kB.out.setCell (Nat.le_refl _) _)
 have hO1:=hd_ (show Ow v3 w.heap.size 103 7 (.slice C1 b.cs.length q1) (b.cs.map Chan.cells) by rw [← hv3];exact kO1.out.aside kX.out (by decide) _)
 have hO2:=hd_ (show Ow v3 w.heap.size 70 7 (.slice C2 b.hs.length q2) (b.hs.map Htlc.cells) by rw [← hv3];exact kO2.out.aside kX.out (by decide) _)
 have hO3:=hd_ (show Ow v3 w.heap.size 93 5 (.slice C3 b.os.length q3) (b.os.map Circle.cells) by rw [← hv3];exact kO3.out.aside kX.out (by decide) _)
 have hs3 : w3.heap.size = v3.heap.size:=by rw [← hv3];simp
 rw [hv3]
 try rw [hs3]
 clear hs3 hv3 kX kY kB xz kO1 kO2 kO3
 obtain ⟨_,x0,x1,x2,x3,x4,x5,xf,xz⟩:=own6 (Below.refl _ _) (gz_ hX3.out).1 hX3.out
 have yz:=(gz_ hY3.out).1
 obtain ⟨vr,hvr⟩ : ∃ v,(((((v3.setCell ⟨w.heap.size + 1,0,none⟩ (.int .i64 b.t)).setCell ⟨w.heap.size + 1,1,none⟩ (.int .i64 b.n)).setCell ⟨w.heap.size + 1,2,none⟩ (.int .i64 b.w)).setCell ⟨w.heap.size + 1,3,none⟩ (.slice C1 b.cs.length q1)).setCell ⟨w.heap.size + 1,4,none⟩ (.slice C2 b.hs.length q2)).setCell ⟨w.heap.size + 1,5,none⟩ (.slice C3 b.os.length q3) = v:=⟨_,rfl⟩
 have hR : Hid (vr.heap[w.heap.size + 1]? = some (.cells (bkC b C1 q1 C2 q2 C3 q3) 39 (0,0))):=hd_ (by rw [← hvr];exact zqa (zqa (zqa (zqa (zqa (zqa hY3.out))))))
 have hG : Hid (v3.grownBy vr (some (w.heap.size + 1))):=hd_ (by rw [← hvr];exact zqg (zqg (zqg (zqg (zqg (zqg (World.grownBy.refl v3 (some (w.heap.size + 1))) _ _) _ _) _ _) _ _) _ _) _ _)
 rw [hvr]
 clear hvr x0 x1 x2 x3 x4 x5 xf xz yz
 obtain ⟨_,y0,y1,y2,y3,y4,y5,yf,_⟩:=own6 (Below.refl _ _) (gz_ hR.out).1 hR.out
 refine bodyPost_ret (v:=.agg #[.int .i64 b.t,.int .i64 b.n,.int .i64 b.w,.slice C1 b.cs.length q1,.slice C2 b.hs.length q2,.slice C3 b.os.length q3]) (by simp [results,Tryz.results43,go_sem, *]) rfl ?_
 refine ⟨_,_,_,_,_,_,rfl,⟨hO1.out.grown hG.out (Or.inr (hO1.out.ne_ hY3.out (by decide)).symm),hO2.out.grown hG.out (Or.inr (hO2.out.ne_ hY3.out (by decide)).symm),hO3.out.grown hG.out (Or.inr (hO3.out.ne_ hY3.out (by decide)).symm)⟩,hB3.out.grown hG.out (by have:=hB3.out.size;omega) (fun k e => by injection e with e;omega)⟩
def notKeyC (key : Int) (x : Circle) : Bool:=x.Key != key
def pickC (key : Int) (r x : Circle) : Circle:=if (x.Key == key) = true then x else r
def circle0 : Circle:=⟨0,0,0,0,0⟩
def lastC (os : List Circle) (key : Int) : Circle:=os.foldl (pickC key) circle0
theorem zse (key : Int) : ∀ (os : List Circle) (r : Circle),os.foldl (pickC key) r = r ∨ os.foldl (pickC key) r ∈ os
 | [],r => Or.inl rfl
 | h :: os,r => by
  rw [List.foldl_cons]
  rcases zse key os (pickC key r h) with h1 | h1
  ·
   rw [h1]
   unfold pickC
   split
   ·
    exact Or.inr (by simp)
   exact Or.inl rfl
  exact Or.inr (by simp [h1])
theorem lastC_mem {os : List Circle} {key : Int} (h : (lastC os key).Key ≠ 0) : lastC os key ∈ os:=by
 rcases zse key os circle0 with h1 | h1
 ·
  exact absurd (by unfold lastC;rw [h1];rfl) h
 exact h1
def landS (b : Bk) (key : Int) (good : Bool) : Out :=
 if (lastC b.os key).Key = 0 then bad 15
 else if good = true then done ⟨b.t,b.n,b.w,moveC (moveC b.cs (lastC b.os key).From 0 ((lastC b.os key).Amt + (lastC b.os key).Fee)) (lastC b.os key).To (lastC b.os key).Amt 0,b.hs,b.os.filter (notKeyC key)⟩ (nz [⟨4,0,(lastC b.os key).Fee⟩,⟨6,(lastC b.os key).To,(lastC b.os key).Amt⟩,⟨8,(lastC b.os key).From,-((lastC b.os key).Amt + (lastC b.os key).Fee)⟩])
 else done ⟨b.t,b.n,b.w,moveC (moveC b.cs (lastC b.os key).From ((lastC b.os key).Amt + (lastC b.os key).Fee) 0) (lastC b.os key).To 0 (lastC b.os key).Amt,b.hs,b.os.filter (notKeyC key)⟩ (nz [⟨6,(lastC b.os key).From,(lastC b.os key).Amt + (lastC b.os key).Fee⟩,⟨8,(lastC b.os key).From,-((lastC b.os key).Amt + (lastC b.os key).Fee)⟩])
theorem landS_15 {b : Bk} {key : Int} {good : Bool} (h : (lastC b.os key).Key = 0) : landS b key good = bad 15:=by unfold landS;rw [if_pos h]
theorem zgw {b : Bk} {key : Int} {h : Circle} (he : lastC b.os key = h) (h0 : h.Key ≠ 0) : landS b key true = done ⟨b.t,b.n,b.w,moveC (moveC b.cs h.From 0 (h.Amt + h.Fee)) h.To h.Amt 0,b.hs,b.os.filter (notKeyC key)⟩ (nz [⟨4,0,h.Fee⟩,⟨6,h.To,h.Amt⟩,⟨8,h.From,-(h.Amt + h.Fee)⟩]):=by
 subst he;unfold landS;rw [if_neg h0,if_pos rfl]
theorem landS_no {b : Bk} {key : Int} {h : Circle} (he : lastC b.os key = h) (h0 : h.Key ≠ 0) : landS b key false = done ⟨b.t,b.n,b.w,moveC (moveC b.cs h.From (h.Amt + h.Fee) 0) h.To 0 h.Amt,b.hs,b.os.filter (notKeyC key)⟩ (nz [⟨6,h.From,h.Amt + h.Fee⟩,⟨8,h.From,-(h.Amt + h.Fee)⟩]):=by
 subst he;unfold landS;rw [if_neg h0,if_neg (by decide)]
theorem zwa {bt bn bw : Int} {cs : List Chan} {hs : List Htlc} {os : List Circle} {h : Circle} (hF : BookFacts bt bn bw cs hs os) (hm : h ∈ os) : (0 ≤ chanIx cs h.From∧0 ≤ chanIx cs h.To)∧(0 ≤ h.Amt∧h.Amt ≤ 1125899906842624)∧(0 ≤ h.Fee∧h.Fee ≤ 1125899906842624):=by
 have hp:=hF.parts
 simp only [partsB,Bool.and_eq_true] at hp
 have h1:=List.all_eq_true.1 hp.1.2 h hm
 simp only [circB,twoB,Bool.and_eq_true,decide_eq_true_eq,zja,zjj] at h1
 omega
set_option maxRecDepth 100000 in
set_option maxHeartbeats 4000000 in
theorem zsk (w0 w : World) (B X : Nat) (b : Bk) (A1 A2 A3 A4 : Option Addr) (p1 p2 p3 p4 : Nat) (key : Int) (good : Bool) (hF : BookFacts b.t b.n b.w b.cs b.hs b.os) (h : Wk 108 w0 w B X b [] 0 A1 A2 A3 A4 p1 p2 p3 p4) :
  Calls Tryz.prog 74 #[.pointer (some ⟨X,0,none⟩),.int .i64 key,.bool good] w (Acts 108 w B X (landS b key good)):=by
 have H:=hd_ h.here
 clear h
 obtain ⟨L,hL⟩ : ∃ L : List Line,L = []:=⟨_,rfl⟩
 rw [← hL] at H
 have HL:=hd_ hL
 clear hL
 have hcl:=hF.cl
 have h60:=hF.small.hl
 have h20:=hF.small.ol
 have HF0:=hd_ hF
 have HBD:=hd_ (zjd hF)
 clear hF
 obtain ⟨i0,hi,hz0,hz1,hz2⟩:=info_parts zjn
 have HI0:=hd_ hi
 have HI1:=hd_ hz0
 have HI2:=hd_ hz1
 have HI3:=hd_ hz2
 clear hi hz0 hz1 hz2
 obtain ⟨ja,af,az⟩:=opc_ H.out.open_
 go_enter Tryz.func74,Tryz.ntmps74
 go_wp2_with fail
 refine nm_ ?_
 intro wl hw
 obtain ⟨Q,hQ⟩ : ∃ Q,Q = w.heap.size + 1:=⟨_,rfl⟩
 have HQ : Hid (Hx wl Q (qaiiiii 0 0 0 0 0) 93):=hd_ (by rw [hw,hQ];exact zqi (by simp))
 have HP : Hid (Ow wl w.heap.size 93 5 (.slice (some ⟨w.heap.size,0,none⟩) 0 0) []):=hd_ (by rw [hw];exact (Ow.empty_ rfl (Nat.le_refl _)).alloc _)
 have hBl : Below w.heap.size w wl:=by rw [hw];exact bl_
 rw [← hQ]
 have HN0 : Hid ((Value.slice (some ⟨w.heap.size,0,none⟩) 0 0).ownBlock ≠ some Q):=hd_ (by rw [hQ];simp [Value.ownBlock])
 have hQl : w.heap.size ≤ Q:=by omega
 have HXH : Hid (Q ≠ X):=hd_ (by have:=H.out.lt;omega)
 clear hw hQ ja af az
 go_loopw [6,19] (fun vo i wr => ∃ (k : Nat) (out : List Circle) (A' : Option Addr) (cap' : Nat) (hc : Circle),k ≤ b.os.length∧i = .int .i64 k∧vo = .slice A' out.length cap'∧Hid ((b.os.take k).filter (notKeyC key) = out)∧Hid ((b.os.take k).foldl (pickC key) circle0 = hc)∧Hid (Ow wr w.heap.size 93 5 (.slice A' out.length cap') (out.map Circle.cells))∧Hid ((Value.slice A' out.length cap').ownBlock ≠ some Q)∧wr.heap[Q]? = some (.cells #[.int .i64 hc.Key,.int .i64 hc.From,.int .i64 hc.To,.int .i64 hc.Amt,.int .i64 hc.Fee] 93 (0,0))∧Below w.heap.size w wr) (fun _ i _ => b.os.length - (intOf i).toNat)
 case atStart => exact ⟨0,[],some ⟨w.heap.size,0,none⟩,0,circle0,Nat.zero_le _,rfl,rfl,hd_ rfl,hd_ rfl,HP,HN0,HQ.out,hBl⟩
 case round =>
  obtain ⟨k,out,A',cap',hc,hk,rfl,rfl,HF,HG,HO1,HN,hq,hbw1⟩:=hrel
  have hbz:=hbw1.size
  have hol : out.length ≤ 60:=by
   rw [← HF.out]
   exact Nat.le_trans (List.length_filter_le _ _) (by rw [List.length_take];omega)
  have q:=bd5_ hq
  have qf : ∀ j,wr.frozen? ⟨Q,j,none⟩ = false:=zqm hq
  have qz:=(gz_ hq).1
  have HQr:=hd_ hq
  clear hq
  by_cases hlt : k < b.os.length
  ·
   obtain ⟨bb,off,hA1,hbB,c0,c1,c2,c3,c4⟩:=Circle.rd (H.out.o.rd.o.below hbw1) hlt
   subst hA1
   have Fx:=hd_ (zkg (p:=notKeyC key) hlt)
   have Gx:=hd_ (zqq b.os (pickC key) circle0 hlt)
   have j0 : (0 : Int) ≤ (k : Int):=by omega
   have j1 : (k : Int) < (b.os.length : Int):=by omega
   cases tx : (b.os[k].Key == key)
   rotate_left
   ·
    have KS:=hd_ (show (if (notKeyC key) b.os[k] = true then [b.os[k]] else []) = [] by simp [notKeyC,bne,tx])
    have KG:=hd_ (show (pickC key) hc b.os[k] = b.os[k] by simp [pickC,tx])
    go_wp2_with fail
    go_roundw
    case rel => exact ⟨k + 1,out,A',cap',b.os[k],by omega,by go_num,rfl,hd_ (by rw [Fx.out,HF.out,KS.out,List.append_nil]),hd_ (by rw [Gx.out,HG.out,KG.out]),hd_ (by first | exact (HO1.out.grown (zqg (zqg (zqg (zqg (zqg (World.grownBy.refl _ (some Q)) _ _) _ _) _ _) _ _) _ _) (Or.inr HN)).alloc _ | exact (HO1.out.alloc _).grown (zqg (zqg (zqg (zqg (zqg (World.grownBy.refl _ (some Q)) _ _) _ _) _ _) _ _) _ _) (Or.inr HN)),HN,(by first | exact zqd (by simp;omega) (zqa (zqa (zqa (zqa (zqa (HQr.out)))))) | exact zqa (zqa (zqa (zqa (zqa (zqd qz HQr)))))),bl_⟩
    case measure => simp [intOf];omega
   have KS:=hd_ (show (if (notKeyC key) b.os[k] = true then [b.os[k]] else []) = [b.os[k]] by simp [notKeyC,bne,tx])
   have KG:=hd_ (show (pickC key) hc b.os[k] = hc by simp [pickC,tx])
   clear q qf
   go_wp2_with (at_builtin;refine Stop.go ?_)
   refine Stop.on ?_
   refine zqz rfl _ _ _ rfl w.heap.size 93 i0 _ 5 40 Tryz.underlying37 HI0 HI1 HI2 HI3 rfl (by decide) (.slice A' out.length cap') _ (by rfl) ((HO1.out.alloc _).alloc _) (wr.heap.size + 1) 1 [.int .i64 b.os[k].Key,.int .i64 b.os[k].From,.int .i64 b.os[k].To,.int .i64 b.os[k].Amt,.int .i64 b.os[k].Fee] 93 (by rfl) (zqi (by first | rfl | (simp;done))) rfl (by simp [Value.oneCell']) (by rw [List.length_map];omega) (by decide) (by first | omega | (simp;done) | (simp;omega)) ?_
   intro g2 cap2 x2 how2 hgr2 hat2 hlt2
   have hnq2 : g2 ≠ Q:=by
    rcases hat2 with h9 | h9
    ·
     intro e9;subst e9;exact HN h9
    intro e9;subst e9;simp at h9;omega
   have hb2 : Below w.heap.size w x2:=Below.grown (((hbw1.alloc (by omega) _).alloc (by simp;omega) _)) hgr2 (by simp;omega) (fun k9 e9 => (HO1.out.block k9 e9).1)
   have hq2:=zqe hgr2 (fun h9 => HN.out h9.symm) (zqd (by simp;omega) (zqd qz HQr))
   clear hat2 hgr2 HO1 HN HQr
   rw [List.length_map] at how2 ⊢
   go_wp2_with fail
   go_roundw
   case rel => exact ⟨k + 1,out ++ [b.os[k]],some ⟨g2,0,none⟩,cap2,hc,by omega,by go_num,by rw [List.length_append];rfl,hd_ (by rw [Fx.out,HF.out,KS.out]),hd_ (by rw [Gx.out,HG.out,KG.out]),hd_ (by rw [List.map_append,List.length_append];exact how2),hd_ (by simpa [Value.ownBlock] using hnq2),hq2,hb2⟩
   case measure => simp [intOf];omega
  obtain rfl : k = b.os.length:=by omega
  have qf1:=HF.out
  have qf2:=HG.out
  rw [List.take_length] at qf1 qf2
  have HI:=hd_ qf1
  have HJ:=hd_ qf2
  clear qf1 qf2 HF HG hk qf q
  obtain ⟨f0,f1,f2,f3,f4⟩:=hc
  have HWr:=hd_ (H.out.below hbw1)
  have HHr:=HQr
  simp only at HHr
  have HW_wr:=HWr
  have HH_wr:=HHr
  clear HWr HHr HQr
  obtain ⟨ja,af,az⟩:=opc_ HW_wr.out.open_
  have jH:=bd5_ HH_wr
  cases t1 : (f0 == 0)
  rotate_left
  ·
   have hf0:=eq_of_beq t1
   have HO : Hid (landS b key good = bad 15):=hd_ (landS_15 (by unfold lastC;rw [HJ.out];exact hf0))
   clear hf0
   go_wp2_with fail
   refine (zqy _ _ B X b L A1 A2 A3 A4 p1 p2 p3 p4 15 (by decide) HW_wr).mono ?_
   rintro e' w6 ⟨rfl,hh,ho⟩
   have HW6:=hd_ (HW_wr.out.trans hh)
   have HH6:=hd_ (ho _ _ HXH HH_wr)
   clear hh ho
   clear ja af az jH
   obtain ⟨ja,af,az⟩:=opc_ HW6.out.open_
   have jH:=bd5_ HH6
   go_wp2_with fail
   go_end0
   rw [HO.out]
   exact Acts.no (by decide) ⟨_,_,_,_,_,_,_,_,rfl,HW6.out⟩
  go_wp2_with fail
  refine (zqp _ _ B X b L A1 A2 A3 A4 p1 p2 p3 p4 15 HW_wr).mono ?_
  rintro e' wz ⟨rfl,rfl⟩
  have hf0:=beq_eq_false_iff_ne.1 t1
  clear t1
  have hfm : (⟨f0,f1,f2,f3,f4⟩ : Circle) ∈ b.os:=by rw [← HJ.out];exact lastC_mem (by unfold lastC;rw [HJ.out];exact hf0)
  obtain ⟨⟨mi,mo⟩,⟨m1,m2⟩,m3,m4⟩:=zwa HF0 hfm
  simp only at mi mo m1 m2 m3 m4
  have HO : Hid (lastC b.os key = ⟨f0,f1,f2,f3,f4⟩):=HJ
  have Hf0:=hd_ hf0
  have Hmi:=hd_ mi
  have Hmo:=hd_ mo
  clear mi mo hf0 hfm
  obtain ⟨g,hA,hBg⟩:=HW_wr.out.o.c.headW (by rw [List.length_map];obtain ⟨i,hi⟩:=Int.eq_ofNat_of_zero_le Hmi.out;have:=zxm hi;omega)
  subst hA
  cases good
  ·
   go_wp2_with fail
   refine nm_ ?_
   intro w6 hw
   have HW6 : Hid (Wk 108 w w6 B X ⟨b.t,b.n,b.w,b.cs,b.hs,out⟩ L 0 (some ⟨g,0,none⟩) A2 A' A4 p1 p2 cap' p4):=hd_ (by rw [hw];exact HW_wr.out.setO (by decide) (by decide) (by decide) (by decide) (HO1.out.more H.out.ble))
   have HH6:=hf_ hw HXH HH_wr
   clear hw
   clear ja af az jH
   obtain ⟨ja,af,az⟩:=opc_ HW6.out.open_
   have jH:=bd5_ HH6
   refine (zjh _ _ B X ⟨b.t,b.n,b.w,b.cs,b.hs,out⟩ L 0 (some ⟨g,0,none⟩) A2 A' A4 p1 p2 cap' p4 f1 (f3 + f4) 0 (by (try simp only);omega) (Hmi.out) (by have:=HBD.out.at_ Hmi.out;(try simp only);omega) (by omega) (by omega) HW6).mono ?_
   rintro e' w7 ⟨rfl,hh,ho⟩
   have HH7:=hd_ (ho g rfl _ _ (fun e9 => HW6.out.o.c.ne_ HH6 (by decide) (by rw [e9];rfl)) HH6)
   obtain ⟨cs1,hc9⟩ : ∃ v,moveC b.cs f1 (f3 + f4) 0 = v:=⟨_,rfl⟩
   rw [hc9] at hh
   have Hcs1:=hd_ hc9
   have HW7:=hd_ (HW6.out.trans hh)
   clear hh ho hc9
   clear ja af az jH
   obtain ⟨ja,af,az⟩:=opc_ HW7.out.open_
   have jH:=bd5_ HH7
   have Hix1 : Hid (∀ ch,chanIx cs1 ch = chanIx b.cs ch):=hd_ (by rw [← Hcs1.out];exact fun ch => zxn _ _ _ _ ch)
   have hl1 : cs1.length = b.cs.length:=by rw [← Hcs1.out];exact zxg _ _ _ _
   have HBD1 : Hid (Bd (1125899906842624 + 2251799813685248) cs1):=hd_ (by rw [← Hcs1.out];exact HBD.out.move _ _ _ (by omega) (by omega))
   have HL1:=hd_ hl1
   clear hl1
   go_wp2_with fail
   refine (zjh _ _ B X ⟨b.t,b.n,b.w,cs1,b.hs,out⟩ L 0 (some ⟨g,0,none⟩) A2 A' A4 p1 p2 cap' p4 f2 0 f3 (by have:=HL1.out;(try simp only);omega) (by (try simp only);rw [Hix1.out];exact Hmo) (by have:=HBD1.out.at_ (ch:=f2) (by rw [Hix1.out];exact Hmo);(try simp only);omega) (by omega) (by omega) HW7).mono ?_
   rintro e' w8 ⟨rfl,hh,ho⟩
   have HH8:=hd_ (ho g rfl _ _ (fun e9 => HW7.out.o.c.ne_ HH7 (by decide) (by rw [e9];rfl)) HH7)
   obtain ⟨cs2,hc9⟩ : ∃ v,moveC cs1 f2 0 f3 = v:=⟨_,rfl⟩
   rw [hc9] at hh
   have Hcs2:=hd_ hc9
   have HW8:=hd_ (HW7.out.trans hh)
   clear hh ho hc9
   clear ja af az jH
   obtain ⟨ja,af,az⟩:=opc_ HW8.out.open_
   have jH:=bd5_ HH8
   go_wp2_with fail
   refine (zxo _ _ B X ⟨b.t,b.n,b.w,cs2,b.hs,out⟩ L 0 (some ⟨g,0,none⟩) A2 A' A4 p1 p2 cap' p4 6 f1 (f3 + f4) (by rw [HL.out];decide) HW8).mono ?_
   rintro e' w9 ⟨⟨Cw90,Cw91,Cw92,Cw93,rw90,rw91,rw92,rw93,rfl,hh⟩,ho⟩
   have HH9:=hd_ (ho _ _ HXH HH8)
   obtain ⟨M0,hL9⟩ : ∃ v,lineTo L 6 f1 (f3 + f4) = v:=⟨_,rfl⟩
   rw [hL9] at hh
   have hlM0 : M0.length ≤ L.length + 1:=by rw [← hL9];exact zqu _ _ _ _
   have HM0:=hd_ hL9
   have HW9:=hd_ (HW8.out.trans hh)
   clear hh ho hL9
   clear ja af az jH
   obtain ⟨ja,af,az⟩:=opc_ HW9.out.open_
   have jH:=bd5_ HH9
   go_wp2_with fail
   refine (zxo _ _ B X ⟨b.t,b.n,b.w,cs2,b.hs,out⟩ M0 0 Cw90 Cw91 Cw92 Cw93 rw90 rw91 rw92 rw93 8 f1 (-(f3 + f4)) (by rw [HL.out] at hlM0;simp at hlM0;omega) HW9).mono ?_
   rintro e' w10 ⟨⟨Cw100,Cw101,Cw102,Cw103,rw100,rw101,rw102,rw103,rfl,hh⟩,ho⟩
   have HH10:=hd_ (ho _ _ HXH HH9)
   obtain ⟨M1,hL9⟩ : ∃ v,lineTo M0 8 f1 (-(f3 + f4)) = v:=⟨_,rfl⟩
   rw [hL9] at hh
   have hlM1 : M1.length ≤ M0.length + 1:=by rw [← hL9];exact zqu _ _ _ _
   have HM1:=hd_ hL9
   have HW10:=hd_ (HW9.out.trans hh)
   clear hh ho hL9
   clear ja af az jH
   obtain ⟨ja,af,az⟩:=opc_ HW10.out.open_
   have jH:=bd5_ HH10
   go_wp2_with fail
   go_end0
   rw [landS_no HO Hf0.out]
   have HZ : nz [⟨6,f1,(f3 + f4)⟩,⟨8,f1,(-(f3 + f4))⟩] = M1:=by rw [← HM1.out,← HM0.out,HL.out];exact (line2 (by decide)).symm
   rw [show (⟨f0,f1,f2,f3,f4⟩ : Circle).From = f1 from rfl,show (⟨f0,f1,f2,f3,f4⟩ : Circle).To = f2 from rfl,show (⟨f0,f1,f2,f3,f4⟩ : Circle).Amt = f3 from rfl,show (⟨f0,f1,f2,f3,f4⟩ : Circle).Fee = f4 from rfl,HZ,HI.out,Hcs1.out,Hcs2.out]
   exact Acts.ok ⟨_,_,_,_,_,_,_,_,rfl,HW10.out⟩
  go_wp2_with fail
  refine nm_ ?_
  intro w6 hw
  have HW6 : Hid (Wk 108 w w6 B X ⟨b.t,b.n,b.w,b.cs,b.hs,out⟩ L 0 (some ⟨g,0,none⟩) A2 A' A4 p1 p2 cap' p4):=hd_ (by rw [hw];exact HW_wr.out.setO (by decide) (by decide) (by decide) (by decide) (HO1.out.more H.out.ble))
  have HH6:=hf_ hw HXH HH_wr
  clear hw
  clear ja af az jH
  obtain ⟨ja,af,az⟩:=opc_ HW6.out.open_
  have jH:=bd5_ HH6
  refine (zjh _ _ B X ⟨b.t,b.n,b.w,b.cs,b.hs,out⟩ L 0 (some ⟨g,0,none⟩) A2 A' A4 p1 p2 cap' p4 f1 0 (f3 + f4) (by (try simp only);omega) (Hmi.out) (by have:=HBD.out.at_ Hmi.out;(try simp only);omega) (by omega) (by omega) HW6).mono ?_
  rintro e' w7 ⟨rfl,hh,ho⟩
  have HH7:=hd_ (ho g rfl _ _ (fun e9 => HW6.out.o.c.ne_ HH6 (by decide) (by rw [e9];rfl)) HH6)
  obtain ⟨cs1,hc9⟩ : ∃ v,moveC b.cs f1 0 (f3 + f4) = v:=⟨_,rfl⟩
  rw [hc9] at hh
  have Hcs1:=hd_ hc9
  have HW7:=hd_ (HW6.out.trans hh)
  clear hh ho hc9
  clear ja af az jH
  obtain ⟨ja,af,az⟩:=opc_ HW7.out.open_
  have jH:=bd5_ HH7
  have Hix1 : Hid (∀ ch,chanIx cs1 ch = chanIx b.cs ch):=hd_ (by rw [← Hcs1.out];exact fun ch => zxn _ _ _ _ ch)
  have hl1 : cs1.length = b.cs.length:=by rw [← Hcs1.out];exact zxg _ _ _ _
  have HBD1 : Hid (Bd (1125899906842624 + 2251799813685248) cs1):=hd_ (by rw [← Hcs1.out];exact HBD.out.move _ _ _ (by omega) (by omega))
  have HL1:=hd_ hl1
  clear hl1
  go_wp2_with fail
  refine (zjh _ _ B X ⟨b.t,b.n,b.w,cs1,b.hs,out⟩ L 0 (some ⟨g,0,none⟩) A2 A' A4 p1 p2 cap' p4 f2 f3 0 (by have:=HL1.out;(try simp only);omega) (by (try simp only);rw [Hix1.out];exact Hmo) (by have:=HBD1.out.at_ (ch:=f2) (by rw [Hix1.out];exact Hmo);(try simp only);omega) (by omega) (by omega) HW7).mono ?_
  rintro e' w8 ⟨rfl,hh,ho⟩
  have HH8:=hd_ (ho g rfl _ _ (fun e9 => HW7.out.o.c.ne_ HH7 (by decide) (by rw [e9];rfl)) HH7)
  obtain ⟨cs2,hc9⟩ : ∃ v,moveC cs1 f2 f3 0 = v:=⟨_,rfl⟩
  rw [hc9] at hh
  have Hcs2:=hd_ hc9
  have HW8:=hd_ (HW7.out.trans hh)
  clear hh ho hc9
  clear ja af az jH
  obtain ⟨ja,af,az⟩:=opc_ HW8.out.open_
  have jH:=bd5_ HH8
  go_wp2_with fail
  refine (zxo _ _ B X ⟨b.t,b.n,b.w,cs2,b.hs,out⟩ L 0 (some ⟨g,0,none⟩) A2 A' A4 p1 p2 cap' p4 4 0 f4 (by rw [HL.out];decide) HW8).mono ?_
  rintro e' w9 ⟨⟨Cw90,Cw91,Cw92,Cw93,rw90,rw91,rw92,rw93,rfl,hh⟩,ho⟩
  have HH9:=hd_ (ho _ _ HXH HH8)
  obtain ⟨M0,hL9⟩ : ∃ v,lineTo L 4 0 f4 = v:=⟨_,rfl⟩
  rw [hL9] at hh
  have hlM0 : M0.length ≤ L.length + 1:=by rw [← hL9];exact zqu _ _ _ _
  have HM0:=hd_ hL9
  have HW9:=hd_ (HW8.out.trans hh)
  clear hh ho hL9
  clear ja af az jH
  obtain ⟨ja,af,az⟩:=opc_ HW9.out.open_
  have jH:=bd5_ HH9
  go_wp2_with fail
  refine (zxo _ _ B X ⟨b.t,b.n,b.w,cs2,b.hs,out⟩ M0 0 Cw90 Cw91 Cw92 Cw93 rw90 rw91 rw92 rw93 6 f2 f3 (by rw [HL.out] at hlM0;simp at hlM0;omega) HW9).mono ?_
  rintro e' w10 ⟨⟨Cw100,Cw101,Cw102,Cw103,rw100,rw101,rw102,rw103,rfl,hh⟩,ho⟩
  have HH10:=hd_ (ho _ _ HXH HH9)
  obtain ⟨M1,hL9⟩ : ∃ v,lineTo M0 6 f2 f3 = v:=⟨_,rfl⟩
  rw [hL9] at hh
  have hlM1 : M1.length ≤ M0.length + 1:=by rw [← hL9];exact zqu _ _ _ _
  have HM1:=hd_ hL9
  have HW10:=hd_ (HW9.out.trans hh)
  clear hh ho hL9
  clear ja af az jH
  obtain ⟨ja,af,az⟩:=opc_ HW10.out.open_
  have jH:=bd5_ HH10
  go_wp2_with fail
  refine (zxo _ _ B X ⟨b.t,b.n,b.w,cs2,b.hs,out⟩ M1 0 Cw100 Cw101 Cw102 Cw103 rw100 rw101 rw102 rw103 8 f1 (-(f3 + f4)) (by rw [HL.out] at hlM0;simp at hlM0;omega) HW10).mono ?_
  rintro e' w11 ⟨⟨Cw110,Cw111,Cw112,Cw113,rw110,rw111,rw112,rw113,rfl,hh⟩,ho⟩
  have HH11:=hd_ (ho _ _ HXH HH10)
  obtain ⟨M2,hL9⟩ : ∃ v,lineTo M1 8 f1 (-(f3 + f4)) = v:=⟨_,rfl⟩
  rw [hL9] at hh
  have hlM2 : M2.length ≤ M1.length + 1:=by rw [← hL9];exact zqu _ _ _ _
  have HM2:=hd_ hL9
  have HW11:=hd_ (HW10.out.trans hh)
  clear hh ho hL9
  clear ja af az jH
  obtain ⟨ja,af,az⟩:=opc_ HW11.out.open_
  have jH:=bd5_ HH11
  go_wp2_with fail
  go_end0
  rw [zgw HO Hf0.out]
  have HZ : nz [⟨4,0,f4⟩,⟨6,f2,f3⟩,⟨8,f1,(-(f3 + f4))⟩] = M2:=by rw [← HM2.out,← HM1.out,← HM0.out,HL.out];exact (line3 (by decide) (by decide)).symm
  rw [show (⟨f0,f1,f2,f3,f4⟩ : Circle).From = f1 from rfl,show (⟨f0,f1,f2,f3,f4⟩ : Circle).To = f2 from rfl,show (⟨f0,f1,f2,f3,f4⟩ : Circle).Amt = f3 from rfl,show (⟨f0,f1,f2,f3,f4⟩ : Circle).Fee = f4 from rfl,HZ,HI.out,Hcs1.out,Hcs2.out]
  exact Acts.ok ⟨_,_,_,_,_,_,_,_,rfl,HW11.out⟩
theorem tickB_2 {b : Bk} (h : b.t = 1125899906842624) : tickB b = bad 2:=by unfold tickB;rw [if_pos h]
theorem zsp {b : Bk} (h : b.t ≠ 1125899906842624) (h5 : (b.t + 1) % 5 = 0) : tickB b = done ⟨b.t + 1,b.n,b.w,b.cs.map fadeC,b.hs.map olderH,b.os⟩ []:=by unfold tickB;rw [if_neg h,if_pos h5]
theorem tickB_no {b : Bk} (h : b.t ≠ 1125899906842624) (h5 : (b.t + 1) % 5 ≠ 0) : tickB b = done ⟨b.t + 1,b.n,b.w,b.cs,b.hs.map olderH,b.os⟩ []:=by unfold tickB;rw [if_neg h,if_neg h5]
set_option maxRecDepth 100000 in
set_option maxHeartbeats 4000000 in
theorem s_l07Tick (w0 w : World) (B X : Nat) (b : Bk) (A1 A2 A3 A4 : Option Addr) (p1 p2 p3 p4 : Nat) (hF : BookFacts b.t b.n b.w b.cs b.hs b.os) (h : Wk 108 w0 w B X b [] 0 A1 A2 A3 A4 p1 p2 p3 p4) :
  Calls Tryz.prog 72 #[.pointer (some ⟨X,0,none⟩)] w (Acts 108 w B X (tickB b)):=by
 have H:=hd_ h.here
 clear h
 obtain ⟨L,hL⟩ : ∃ L : List Line,L = []:=⟨_,rfl⟩
 rw [← hL] at H
 have HL:=hd_ hL
 clear hL
 obtain ⟨m1,m2⟩:=hF.t
 have hcl:=hF.cl
 have h60:=hF.small.hl
 have HAge : Hid (∀ k,(hk : k < b.hs.length) → 0 ≤ b.hs[k].Age∧b.hs[k].Age ≤ 1125899906842624):=hd_ (fun k hk => by have hp:=hF.parts;simp only [partsB,Bool.and_eq_true] at hp;have h1:=List.all_eq_true.1 hp.1.1 _ (List.getElem_mem hk);simp only [htlcB,Bool.and_eq_true,zja] at h1;exact h1.2)
 clear hF
 cases t1 : (b.t == 1125899906842624)
 rotate_left
 ·
  have HO:=hd_ (tickB_2 (b:=b) (eq_of_beq t1))
  have HW_w:=H
  clear H
  obtain ⟨a,af,az⟩:=opc_ HW_w.out.open_
  go_enter Tryz.func72,Tryz.ntmps72
  go_wp2_with fail
  refine (zqy _ _ B X b L A1 A2 A3 A4 p1 p2 p3 p4 2 (by decide) HW_w).mono ?_
  rintro e' w1 ⟨rfl,hh,ho⟩
  have HW1:=hd_ (HW_w.out.trans hh)
  clear hh ho
  clear a af az
  obtain ⟨a,af,az⟩:=opc_ HW1.out.open_
  go_wp2_with fail
  go_end0
  rw [HO.out]
  exact Acts.no (by decide) ⟨_,_,_,_,_,_,_,_,rfl,HW1.out⟩
 have hne:=hd_ (beq_eq_false_iff_ne.1 t1)
 have m3 : b.t < 1125899906842624:=by have:=hne.out;omega
 cases t5 : ((b.t + 1) % 5 == 0)
 ·
  have HO:=hd_ (tickB_no (b:=b) hne.out (beq_eq_false_iff_ne.1 t5))
  have HW_w:=H
  clear H
  obtain ⟨a,af,az⟩:=opc_ HW_w.out.open_
  go_enter Tryz.func72,Tryz.ntmps72
  go_wp2_with fail
  refine (zqp _ _ B X b L A1 A2 A3 A4 p1 p2 p3 p4 2 HW_w).mono ?_
  rintro e' wz ⟨rfl,rfl⟩
  clear t1
  go_wp2_with fail
  refine nm_ ?_
  intro w1 hw
  have HW1 : Hid (Wk 108 w w1 B X ⟨(b.t + 1),b.n,b.w,b.cs,b.hs,b.os⟩ L 0 A1 A2 A3 A4 p1 p2 p3 p4):=hd_ (by rw [hw];exact HW_w.out.setTick (by decide) (by decide) (by decide) (by decide) _)
  clear hw
  clear a af az
  obtain ⟨a,af,az⟩:=opc_ HW1.out.open_
  clear a af az
  go_loopw [27] (fun i wr => ∃ k : Nat,k ≤ b.hs.length∧i = .int .i64 k∧Hid (Wk 108 w wr B X ⟨(b.t + 1),b.n,b.w,b.cs,mapTo olderH b.hs k,b.os⟩ L 0 A1 A2 A3 A4 p1 p2 p3 p4)) (fun i _ => b.hs.length - (intOf i).toNat)
  case atStart => exact ⟨0,Nat.zero_le _,rfl,by rw [zkl];exact HW1⟩
  case round =>
   obtain ⟨k,hk,rfl,HR⟩:=hrel
   have HW_wr:=HR
   clear HR
   have hml:=zkp olderH b.hs k
   have HML:=hd_ hml
   clear hml
   obtain ⟨a,af,az⟩:=opc_ HW_wr.out.open_
   simp only at a
   rw [HML.out] at a
   by_cases hlt : k < b.hs.length
   ·
    obtain ⟨g2,hA,hBg⟩:=HW_wr.out.o.h.headW (by rw [List.length_map,HML.out];omega)
    subst hA
    have HRow : Hid (((mapTo olderH b.hs k).map Htlc.cells)[k]? = some b.hs[k].cells):=hd_ (by rw [List.getElem?_map,zjq olderH hlt];rfl)
    have c6:=HW_wr.out.o.h.cellAt HRow (j:=6) (by decide)
    simp only [Htlc.cells,List.getElem?_cons_zero,List.getElem?_cons_succ] at c6
    have cf:=fun j => HW_wr.out.o.h.frozenAt j
    obtain ⟨ma,mb⟩:=HAge.out k hlt
    have j0 : (0 : Int) ≤ (k : Int):=by omega
    have j1 : (k : Int) < (b.hs.length : Int):=by omega
    cases tx : decide (b.hs[k].Age < 1125899906842624)
    ·
     have KS:=hd_ (show olderH b.hs[k] = b.hs[k] by unfold olderH;rw [if_neg (of_decide_eq_false tx)])
     go_wp2_with fail
     go_roundw
     case rel => exact ⟨k + 1,by omega,by go_num,by rw [← zmh olderH hlt KS.out];exact HW_wr⟩
     case measure => simp [intOf];omega
    have KS:=hd_ (show olderH b.hs[k] = { b.hs[k] with Age:=b.hs[k].Age + 1 } by unfold olderH;rw [if_pos (of_decide_eq_true tx)])
    go_wp2_with fail
    go_roundw
    case rel => exact ⟨k + 1,by omega,by go_num,hd_ (by have h9:=HW_wr.out.putCellH (i:=k) (j:=6) (c:=b.hs[k]) (c':={ b.hs[k] with Age:=b.hs[k].Age + 1 }) (u:=.int .i64 (b.hs[k].Age + 1)) (by decide) (zjq olderH hlt) (by decide) rfl;rw [← KS.out,zkq olderH hlt] at h9;exact h9)⟩
    case measure => simp [intOf];omega
   obtain rfl : k = b.hs.length:=by omega
   go_wp2_with fail
   clear a af az
   rw [zkz] at HW_wr
   clear HML hk
   obtain ⟨wo,rfl⟩ : ∃ wo : World,wo = wr:=⟨_,rfl⟩
   have HW_wo:=HW_wr
   clear HW_wr
   go_loopw [59] (fun i wr => ∃ k : Nat,k ≤ b.cs.length∧i = .int .i64 k∧Hid (Wk 108 w wr B X ⟨(b.t + 1),b.n,b.w,b.cs,(b.hs.map olderH),b.os⟩ L 0 A1 A2 A3 A4 p1 p2 p3 p4)) (fun i _ => b.cs.length - (intOf i).toNat)
   case atStart => exact ⟨0,Nat.zero_le _,rfl,HW_wo⟩
   case round =>
    obtain ⟨k,hk,rfl,HR⟩:=hrel
    have HW_wr:=HR
    clear HR
    obtain ⟨a,af,az⟩:=opc_ HW_wr.out.open_
    simp only at a
    by_cases hlt : k < b.cs.length
    ·
     have j0 : (0 : Int) ≤ (k : Int):=by omega
     have j1 : (k : Int) < (b.cs.length : Int):=by omega
     go_wp2_with fail
     go_roundw
     case rel => exact ⟨k + 1,by omega,by go_num,HW_wr⟩
     case measure => simp [intOf];omega
    obtain rfl : k = b.cs.length:=by omega
    go_wp2_with fail
    go_end0
    rw [HO.out,← HL.out]
    exact Acts.ok ⟨_,_,_,_,_,_,_,_,rfl,HW_wr.out⟩
 have HO:=hd_ (zsp (b:=b) hne.out (eq_of_beq t5))
 have HW_w:=H
 clear H
 obtain ⟨a,af,az⟩:=opc_ HW_w.out.open_
 go_enter Tryz.func72,Tryz.ntmps72
 go_wp2_with fail
 refine (zqp _ _ B X b L A1 A2 A3 A4 p1 p2 p3 p4 2 HW_w).mono ?_
 rintro e' wz ⟨rfl,rfl⟩
 clear t1
 go_wp2_with fail
 refine nm_ ?_
 intro w1 hw
 have HW1 : Hid (Wk 108 w w1 B X ⟨(b.t + 1),b.n,b.w,b.cs,b.hs,b.os⟩ L 0 A1 A2 A3 A4 p1 p2 p3 p4):=hd_ (by rw [hw];exact HW_w.out.setTick (by decide) (by decide) (by decide) (by decide) _)
 clear hw
 clear a af az
 obtain ⟨a,af,az⟩:=opc_ HW1.out.open_
 clear a af az
 go_loopw [27] (fun i wr => ∃ k : Nat,k ≤ b.hs.length∧i = .int .i64 k∧Hid (Wk 108 w wr B X ⟨(b.t + 1),b.n,b.w,b.cs,mapTo olderH b.hs k,b.os⟩ L 0 A1 A2 A3 A4 p1 p2 p3 p4)) (fun i _ => b.hs.length - (intOf i).toNat)
 case atStart => exact ⟨0,Nat.zero_le _,rfl,by rw [zkl];exact HW1⟩
 case round =>
  obtain ⟨k,hk,rfl,HR⟩:=hrel
  have HW_wr:=HR
  clear HR
  have hml:=zkp olderH b.hs k
  have HML:=hd_ hml
  clear hml
  obtain ⟨a,af,az⟩:=opc_ HW_wr.out.open_
  simp only at a
  rw [HML.out] at a
  by_cases hlt : k < b.hs.length
  ·
   obtain ⟨g2,hA,hBg⟩:=HW_wr.out.o.h.headW (by rw [List.length_map,HML.out];omega)
   subst hA
   have HRow : Hid (((mapTo olderH b.hs k).map Htlc.cells)[k]? = some b.hs[k].cells):=hd_ (by rw [List.getElem?_map,zjq olderH hlt];rfl)
   have c6:=HW_wr.out.o.h.cellAt HRow (j:=6) (by decide)
   simp only [Htlc.cells,List.getElem?_cons_zero,List.getElem?_cons_succ] at c6
   have cf:=fun j => HW_wr.out.o.h.frozenAt j
   obtain ⟨ma,mb⟩:=HAge.out k hlt
   have j0 : (0 : Int) ≤ (k : Int):=by omega
   have j1 : (k : Int) < (b.hs.length : Int):=by omega
   cases tx : decide (b.hs[k].Age < 1125899906842624)
   ·
    have KS:=hd_ (show olderH b.hs[k] = b.hs[k] by unfold olderH;rw [if_neg (of_decide_eq_false tx)])
    go_wp2_with fail
    go_roundw
    case rel => exact ⟨k + 1,by omega,by go_num,by rw [← zmh olderH hlt KS.out];exact HW_wr⟩
    case measure => simp [intOf];omega
   have KS:=hd_ (show olderH b.hs[k] = { b.hs[k] with Age:=b.hs[k].Age + 1 } by unfold olderH;rw [if_pos (of_decide_eq_true tx)])
   go_wp2_with fail
   go_roundw
   case rel => exact ⟨k + 1,by omega,by go_num,hd_ (by have h9:=HW_wr.out.putCellH (i:=k) (j:=6) (c:=b.hs[k]) (c':={ b.hs[k] with Age:=b.hs[k].Age + 1 }) (u:=.int .i64 (b.hs[k].Age + 1)) (by decide) (zjq olderH hlt) (by decide) rfl;rw [← KS.out,zkq olderH hlt] at h9;exact h9)⟩
   case measure => simp [intOf];omega
  obtain rfl : k = b.hs.length:=by omega
  go_wp2_with fail
  clear a af az
  rw [zkz] at HW_wr
  clear HML hk
  obtain ⟨wo,rfl⟩ : ∃ wo : World,wo = wr:=⟨_,rfl⟩
  have HW_wo:=HW_wr
  clear HW_wr
  go_loopw [59] (fun i wr => ∃ k : Nat,k ≤ b.cs.length∧i = .int .i64 k∧Hid (Wk 108 w wr B X ⟨(b.t + 1),b.n,b.w,mapTo fadeC b.cs k,(b.hs.map olderH),b.os⟩ L 0 A1 A2 A3 A4 p1 p2 p3 p4)) (fun i _ => b.cs.length - (intOf i).toNat)
  case atStart => exact ⟨0,Nat.zero_le _,rfl,by rw [zkl];exact HW_wo⟩
  case round =>
   obtain ⟨k,hk,rfl,HR⟩:=hrel
   have HW_wr:=HR
   clear HR
   have HML:=hd_ (zkp fadeC b.cs k)
   obtain ⟨a,af,az⟩:=opc_ HW_wr.out.open_
   simp only at a
   rw [HML.out] at a
   by_cases hlt : k < b.cs.length
   rotate_left
   ·
    obtain rfl : k = b.cs.length:=by omega
    rw [zkz] at HW_wr
    go_wp2_with fail
    go_end0
    rw [HO.out,← HL.out]
    exact Acts.ok ⟨_,_,_,_,_,_,_,_,rfl,HW_wr.out⟩
   have j0 : (0 : Int) ≤ (k : Int):=by omega
   have j1 : (k : Int) < (b.cs.length : Int):=by omega
   obtain ⟨g,hA,hBg⟩:=HW_wr.out.o.c.headW (by rw [List.length_map,HML.out];omega)
   subst hA
   obtain ⟨c,hc⟩ : ∃ c,b.cs[k] = c:=⟨_,rfl⟩
   have hr : ((mapTo fadeC b.cs k).map Chan.cells)[k]? = some c.cells:=by rw [List.getElem?_map,zjq fadeC hlt,hc];rfl
   obtain ⟨y0,y1,y2,y3,y4,y5,y6⟩:=c
   have HRow:=hd_ hr
   have HCI:=hd_ hc
   clear hr hc
   have y6c:=HW_wr.out.o.c.cellAt HRow (j:=6) (by decide)
   simp only [Chan.cells,List.getElem?_cons_zero,List.getElem?_cons_succ] at y6c
   go_wp2_with fail
   rw [← HML.out] at a
   have j2 : (k : Int) < ((mapTo fadeC b.cs k).length : Int):=by rw [HML.out];omega
   refine zqs (fun w' => kqiiissss w' X (b.t + 1) b.n b.w (some ⟨g,0,none⟩) ((mapTo fadeC b.cs k).length) p1 A2 ((b.hs.map olderH).length) p2 A3 b.os.length p3 A4 L.length p4 (kqio_ w' g (k * 7 + 6) y6)) [yF 0 69,yF 1 70,yF 2 71,yF 3 72,yF 4 73,yF 5 74,yF 6 75,yF 7 76,yF 8 77,yF 9 78,yF 10 79,yF 11 80,yF 12 81,yF 13 82,yF 14 83,yT 15 84,yF 16 85,yF 17 86] rfl (by kernel_rfl) (by kernel_rfl) (by kernel_rfl) (by kernel_rfl) (by kernel_rfl) (by kernel_rfl) (q78_ a y6c) (fun hH => ?_)
   obtain ⟨w2,hwd⟩ : ∃ wd,wr.drew = wd:=⟨_,rfl⟩
   have HW2:=wkd_ hwd HW_wr
   clear a af az
   rw [hwd] at hH ⊢
   clear hwd
   obtain ⟨a,af,az⟩:=opc_ HW2.out.open_
   refine tk_ ?_
   clear y6c
   have y6c:=HW2.out.o.c.cellAt HRow (j:=6) (by decide)
   simp only [Chan.cells,List.getElem?_cons_zero,List.getElem?_cons_succ] at y6c
   have yf:=fun j => HW2.out.o.c.frozenAt j
   refine ss_ (fun K hK => ?_)
   go_simp
   refine (s_ScoreFade _ _).mono ?_
   rintro e' wz ⟨rfl,rfl⟩
   go_simp
   refine hK.out _ _ (q78_ a y6c) (fun hH => ?_)
   clear hK K
   refine tk_ ?_
   refine Sq.done ?_
   intro KK hKK
   go_simp
   refine hKK _ _ (NoPanic.normal ?_)
   go_wp2_with fail
   go_roundw
   case rel => exact ⟨k + 1,by omega,by go_num,hd_ (by have h9:=HW2.out.putCellC (i:=k) (j:=6) (c:=⟨y0,y1,y2,y3,y4,y5,y6⟩) (c':=fadeC ⟨y0,y1,y2,y3,y4,y5,y6⟩) (u:=.int .i64 (fadeF y6)) (by decide) (by rw [← HCI.out];exact zjq fadeC hlt) (by decide) rfl;simp only at h9;rw [← HCI.out,zkq fadeC hlt] at h9;exact h9)⟩
   case measure => simp [intOf];omega
end Go.Proofs.YtdbmkfmenfcbiaaGreat

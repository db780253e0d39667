/- Sq2 · BookTi · BookTs · Led · OwB · UnderLaw · BookKs · Merge · Pst · Rev · BookG0 · BookPi · DrawL · BookH0 · BookPs · DrawM · ApB · BookO0 · DrawMb · BookOi · EvS · ScS · Wk · EvSa: each text proves what its theorems say, with no conditions but theirs. -/
import Derived.Test.YtdbmkfmenfcbiaaGreatNM1
import Derived.Test.YtdbmkfmenfcbiaaGreatRows
import Derived.RegionTactic
import Derived.IntWalk
import Derived.StillTailTactics
import Derived.Deep.QuietTactic
import Derived.BigQuiet
namespace Go.Proofs.YtdbmkfmenfcbiaaGreat
section
variable {P : Program} {md : Region.Mode} {ops : Array Oper} {Q : Exit → Act → World → Prop} {S : World → Prop}
theorem zpr {G : Act → World → Prop} (hs : Region.noSelect ops = true) (hQ : ∀ c a d v w,Q (.panic c) (a.put d v) w → Q (.panic c) a w) (hG : ∀ a w,G a w → Q .normal a w) (pre o1 o2 : List Stp) (hok : orderTwo md ops pre o1 o2 = true) {a : Act} {w : World} (hS : S w)
    (h : Sq P ops Q S (fun a w => Sq P ops Q S G o1 a w∧Sq P ops Q S G o2 a w) pre a w) : wpAnyH P md ops Q S ops.size (Array.replicate ops.size false) a w:=by
  simp only [orderTwo,Bool.and_eq_true,decide_eq_true_eq] at hok
  obtain ⟨⟨⟨hl1,hl2⟩,hpre⟩,hok⟩:=hok
  refine zjc hs hQ pre _ _ _ _ (by omega) hpre hS (fun a w hS hf => ?_) h
  split at hok
  · rename_i i j h1 h2
    simp only [Bool.and_eq_true,beq_iff_eq,List.isEmpty_iff] at hok
    obtain ⟨⟨⟨⟨hr,ok1⟩,e1⟩,ok2⟩,e2⟩:=hok
    obtain ⟨d1,g1,t1,p1,rfl,ho1,hd1,hg1⟩:=zve h1
    obtain ⟨d2,g2,t2,p2,rfl,ho2,hd2,hg2⟩:=zve h2
    simp only [List.length_cons,List.tail_cons] at hl1 hl2 ok1 ok2 e1 e2
    obtain ⟨n,hn⟩ : ∃ n,ops.size - pre.length = n + 1:=⟨ops.size - pre.length - 1,by omega⟩
    rw [hn]
    refine wpAnyH_ready hr (by simp) (AllReadyH.cons ho1 ?_ (AllReadyH.cons ho2 ?_ AllReadyH.nil))
    · exact ztk ho1 hd1 hg1 (fun a w hS hq => zjc hs hQ t1 n _ a w (by omega) ok1 hS (fun a w _ hf => wpAnyH_done e1 (hG a w hf) _) hq) hS hf.1
    · exact ztk ho2 hd2 hg2 (fun a w hS hq => zjc hs hQ t2 n _ a w (by omega) ok2 hS (fun a w _ hf => wpAnyH_done e2 (hG a w hf) _) hq) hS hf.2
  · cases hok
theorem ztr (S : World → Prop) (pre o1 o2 : List Stp) {o : Oper} {l : List Oper} {id : Nat} {a : Act} {w : World} (ho : l.getLast? = some o) (hm : P.follows .mixedOrders = true) (hg : noGuards l.dropLast.toArray = true) (hw : waitsAll2 .any l.dropLast.toArray o = true) (hb : backOnly .any l.dropLast.toArray = true)
    (hs : Region.noSelect l.dropLast.toArray = true) (hok : orderTwo .any l.dropLast.toArray pre o1 o2 = true)
    (hS : S w.drew) (h : S w.drew → Sq P l.dropLast.toArray (lastQ P l.toArray o (NoPanic Q)) S (fun a w => Sq P l.dropLast.toArray (lastQ P l.toArray o (NoPanic Q)) S (lastQ P l.toArray o (NoPanic Q) .normal) o1 a w∧Sq P l.dropLast.toArray (lastQ P l.toArray o (NoPanic Q)) S (lastQ P l.toArray o (NoPanic Q) .normal) o2 a w) pre a w.drew) : (Code.region id l.toArray true).wp P Q a w :=
  wp_region_noPanic (zkh ho hm hg hw hb hS fun hS => zpr hs (fun _ _ _ _ _ h => h) (fun _ _ h => h) pre o1 o2 hok hS (h hS))
end
end Go.Proofs.YtdbmkfmenfcbiaaGreat
namespace Go.Proofs.YtdbmkfmenfcbiaaGreat
open Go.RowKit
set_option maxRecDepth 100000 in
set_option maxHeartbeats 4000000 in
theorem i_transit (bt bn bw : Int) (cs : List Chan) (hs : List Htlc) (os : List Circle) (A1 A2 A3 : Option Addr) (p1 p2 p3 : Nat) (ch : Int) (w : World) (hsm : Small hs os) (hr : RdBook w w.heap.size A1 cs A2 hs A3 os) :
  Calls Tryz.prog 61 #[.agg #[.int .i64 bt,.int .i64 bn,.int .i64 bw,.slice A1 cs.length p1,.slice A2 hs.length p2,.slice A3 os.length p3],.int .i64 ch] w fun e w' => e = .returned (.tuple #[.int .i64 (outOf hs os ch),.int .i64 (inOf hs os ch)])∧Below w.heap.size w w':=by
 have HH:=hd_ hr.h
 have HO:=hd_ hr.o
 have HS:=hd_ hsm
 have h60:=hsm.hl
 have h20:=hsm.ol
 clear hr hsm
 go_enter Tryz.func61,Tryz.ntmps61
 go_wp2_with fail
 go_loopw [6,7,15] (fun vx vy i wr => ∃ (k : Nat) (x y : Int),k ≤ hs.length∧i = .int .i64 k∧vx = .int .i64 x∧vy = .int .i64 y∧Hid ((hs.take k).foldl (outH ch) 0 = x)∧Hid ((hs.take k).foldl (inH ch) 0 = y)∧wr.heap[w.heap.size]? = some (.cells #[.int .i64 bt,.int .i64 bn,.int .i64 bw,.slice A1 cs.length p1,.slice A2 hs.length p2,.slice A3 os.length p3] 39 (0,0))∧Below w.heap.size w wr) (fun _ _ i _ => hs.length - (intOf i).toNat)
 case atStart => exact ⟨0,_,_,Nat.zero_le _,rfl,rfl,rfl,hd_ rfl,hd_ rfl,zqi rfl,bl_⟩
 case round =>
  obtain ⟨k,x,y,hk,rfl,rfl,rfl,Hx,Hy,hbox,hbw⟩:=hrel
  have hbz:=hbw.size
  obtain ⟨eh,e0,e1,e2,e3,e4,e5,ef,ezz⟩:=own6 (Below.refl wr.heap.size wr) (gz_ hbox).1 hbox
  have EH:=hd_ eh
  clear eh hbox
  have bd_x:=HS.out.outH_bd ch k hk
  rw [Hx.out] at bd_x
  obtain ⟨x1,x2⟩:=bd_x
  have bd_y:=HS.out.inH_bd ch k hk
  rw [Hy.out] at bd_y
  obtain ⟨y1,y2⟩:=bd_y
  by_cases hlt : k < hs.length
  ·
   obtain ⟨b,off,rfl,hbB,c0,c1,c2,c3,c4,c5,c6⟩:=Htlc.rd (HH.out.below hbw) hlt
   obtain ⟨⟨m1,m2⟩,m3,m4⟩:=HS.out.h k hlt
   clear e0 e1 e2 e3 e4 e5 ef
   have Fx:=hd_ (zqq hs (outH ch) 0 hlt)
   have Fy:=hd_ (zqq hs (inH ch) 0 hlt)
   cases tx : (hs[k].Out == ch)
   ·
    have Kx:=hd_ (show outH ch x hs[k] = x by simp [outH,tx])
    cases ty : (hs[k].In == ch)
    ·
     have Ky:=hd_ (show inH ch y hs[k] = y by simp [inH,ty])
     go_wp2_with fail
     go_roundw
     case rel => exact ⟨k + 1,_,_,by omega,by go_num,by first | rfl | go_num,by first | rfl | go_num,hd_ (by first | (rw [Fx.out,Hx.out,Kx.out];done) | (rw [Fx.out,Hx.out,Kx.out];omega)),hd_ (by first | (rw [Fy.out,Hy.out,Ky.out];done) | (rw [Fy.out,Hy.out,Ky.out];omega)),zqd ezz EH.out,bl_⟩
     case measure => simp [intOf];omega
    have Ky:=hd_ (show inH ch y hs[k] = y + hs[k].AmtIn by simp [inH,ty])
    go_wp2_with fail
    go_roundw
    case rel => exact ⟨k + 1,_,_,by omega,by go_num,by first | rfl | go_num,by first | rfl | go_num,hd_ (by first | (rw [Fx.out,Hx.out,Kx.out];done) | (rw [Fx.out,Hx.out,Kx.out];omega)),hd_ (by first | (rw [Fy.out,Hy.out,Ky.out];done) | (rw [Fy.out,Hy.out,Ky.out];omega)),zqd ezz EH.out,bl_⟩
    case measure => simp [intOf];omega
   have Kx:=hd_ (show outH ch x hs[k] = x + hs[k].AmtOut by simp [outH,tx])
   cases ty : (hs[k].In == ch)
   ·
    have Ky:=hd_ (show inH ch y hs[k] = y by simp [inH,ty])
    go_wp2_with fail
    go_roundw
    case rel => exact ⟨k + 1,_,_,by omega,by go_num,by first | rfl | go_num,by first | rfl | go_num,hd_ (by first | (rw [Fx.out,Hx.out,Kx.out];done) | (rw [Fx.out,Hx.out,Kx.out];omega)),hd_ (by first | (rw [Fy.out,Hy.out,Ky.out];done) | (rw [Fy.out,Hy.out,Ky.out];omega)),zqd ezz EH.out,bl_⟩
    case measure => simp [intOf];omega
   have Ky:=hd_ (show inH ch y hs[k] = y + hs[k].AmtIn by simp [inH,ty])
   go_wp2_with fail
   go_roundw
   case rel => exact ⟨k + 1,_,_,by omega,by go_num,by first | rfl | go_num,by first | rfl | go_num,hd_ (by first | (rw [Fx.out,Hx.out,Kx.out];done) | (rw [Fx.out,Hx.out,Kx.out];omega)),hd_ (by first | (rw [Fy.out,Hy.out,Ky.out];done) | (rw [Fy.out,Hy.out,Ky.out];omega)),zqd ezz EH.out,bl_⟩
   case measure => simp [intOf];omega
  obtain rfl : k = hs.length:=by omega
  have qx:=Hx.out
  rw [List.take_length] at qx
  have Qx:=hd_ qx
  clear qx
  have qy:=Hy.out
  rw [List.take_length] at qy
  have Qy:=hd_ qy
  clear qy
  have HZx : Hid (hs.foldl (outH ch) 0 = x):=Qx
  have HZy : Hid (hs.foldl (inH ch) 0 = y):=Qy
  go_wp2_with fail
  obtain ⟨wo,rfl⟩ : ∃ wo : World,wo = wr:=⟨_,rfl⟩
  go_loopw [6,7,39] (fun vu vq i wr => ∃ (k : Nat) (u q : Int),k ≤ os.length∧i = .int .i64 k∧vu = .int .i64 u∧vq = .int .i64 q∧Hid ((os.take k).foldl (outC ch) x = u)∧Hid ((os.take k).foldl (inC ch) y = q)∧wr.heap[w.heap.size]? = some (.cells #[.int .i64 bt,.int .i64 bn,.int .i64 bw,.slice A1 cs.length p1,.slice A2 hs.length p2,.slice A3 os.length p3] 39 (0,0))∧Below w.heap.size w wr) (fun _ _ i _ => os.length - (intOf i).toNat)
  case atStart => exact ⟨0,_,_,Nat.zero_le _,rfl,rfl,rfl,hd_ rfl,hd_ rfl,EH.out,bl_⟩
  case round =>
   obtain ⟨k,u,q,hk,rfl,rfl,rfl,Hu,Hq,hbox,hbw⟩:=hrel
   have hbz:=hbw.size
   obtain ⟨eh,e0,e1,e2,e3,e4,e5,ef,ezz⟩:=own6 (Below.refl wr.heap.size wr) (gz_ hbox).1 hbox
   have EH:=hd_ eh
   clear eh hbox
   have bd_u:=HS.out.outC_bd ch x (by omega) k hk
   rw [Hu.out] at bd_u
   obtain ⟨u1,u2⟩:=bd_u
   have bd_q:=HS.out.inC_bd ch y (by omega) k hk
   rw [Hq.out] at bd_q
   obtain ⟨q1,q2⟩:=bd_q
   by_cases hlt : k < os.length
   rotate_left
   ·
    obtain rfl : k = os.length:=by omega
    have qu:=Hu.out
    rw [List.take_length] at qu
    have Qu:=hd_ qu
    clear qu
    have qq:=Hq.out
    rw [List.take_length] at qq
    have Qq:=hd_ qq
    clear qq
    go_wp2_with fail
    go_ret2
    have Ex : outOf hs os ch = u:=by unfold outOf;rw [HZx.out,Qu.out]
    have Ey : inOf hs os ch = q:=by unfold inOf;rw [HZy.out,Qq.out]
    refine ⟨?_,bl_⟩
    rw [Ex,Ey]
    rfl
   obtain ⟨b,off,rfl,hbB,c0,c1,c2,c3,c4⟩:=Circle.rd (HO.out.below hbw) hlt
   obtain ⟨⟨m1,m2⟩,m3,m4⟩:=HS.out.o k hlt
   clear e0 e1 e2 e3 e4 e5 ef
   have Fu:=hd_ (zqq os (outC ch) x hlt)
   have Fq:=hd_ (zqq os (inC ch) y hlt)
   cases tu : (os[k].From == ch)
   ·
    have Ku:=hd_ (show outC ch u os[k] = u by simp [outC,tu])
    cases tq : (os[k].To == ch)
    ·
     have Kq:=hd_ (show inC ch q os[k] = q by simp [inC,tq])
     go_wp2_with fail
     go_roundw
     case rel => exact ⟨k + 1,_,_,by omega,by go_num,by first | rfl | go_num,by first | rfl | go_num,hd_ (by first | (rw [Fu.out,Hu.out,Ku.out];done) | (rw [Fu.out,Hu.out,Ku.out];omega)),hd_ (by first | (rw [Fq.out,Hq.out,Kq.out];done) | (rw [Fq.out,Hq.out,Kq.out];omega)),zqd ezz EH.out,bl_⟩
     case measure => simp [intOf];omega
    have Kq:=hd_ (show inC ch q os[k] = q + os[k].Amt by simp [inC,tq])
    go_wp2_with fail
    go_roundw
    case rel => exact ⟨k + 1,_,_,by omega,by go_num,by first | rfl | go_num,by first | rfl | go_num,hd_ (by first | (rw [Fu.out,Hu.out,Ku.out];done) | (rw [Fu.out,Hu.out,Ku.out];omega)),hd_ (by first | (rw [Fq.out,Hq.out,Kq.out];done) | (rw [Fq.out,Hq.out,Kq.out];omega)),zqd ezz EH.out,bl_⟩
    case measure => simp [intOf];omega
   have Ku:=hd_ (show outC ch u os[k] = u + (os[k].Amt + os[k].Fee) by simp [outC,tu])
   cases tq : (os[k].To == ch)
   ·
    have Kq:=hd_ (show inC ch q os[k] = q by simp [inC,tq])
    go_wp2_with fail
    go_roundw
    case rel => exact ⟨k + 1,_,_,by omega,by go_num,by first | rfl | go_num,by first | rfl | go_num,hd_ (by first | (rw [Fu.out,Hu.out,Ku.out];done) | (rw [Fu.out,Hu.out,Ku.out];omega)),hd_ (by first | (rw [Fq.out,Hq.out,Kq.out];done) | (rw [Fq.out,Hq.out,Kq.out];omega)),zqd ezz EH.out,bl_⟩
    case measure => simp [intOf];omega
   have Kq:=hd_ (show inC ch q os[k] = q + os[k].Amt by simp [inC,tq])
   go_wp2_with fail
   go_roundw
   case rel => exact ⟨k + 1,_,_,by omega,by go_num,by first | rfl | go_num,by first | rfl | go_num,hd_ (by first | (rw [Fu.out,Hu.out,Ku.out];done) | (rw [Fu.out,Hu.out,Ku.out];omega)),hd_ (by first | (rw [Fq.out,Hq.out,Kq.out];done) | (rw [Fq.out,Hq.out,Kq.out];omega)),zqd ezz EH.out,bl_⟩
   case measure => simp [intOf];omega
set_option maxRecDepth 100000 in
set_option maxHeartbeats 4000000 in
theorem s_l07Out (bt bn bw : Int) (cs : List Chan) (hs : List Htlc) (os : List Circle) (A1 A2 A3 : Option Addr) (p1 p2 p3 : Nat) (ch : Int) (w : World) (hsm : Small hs os) (hr : RdBook w w.heap.size A1 cs A2 hs A3 os) :
  Calls Tryz.prog 59 #[.agg #[.int .i64 bt,.int .i64 bn,.int .i64 bw,.slice A1 cs.length p1,.slice A2 hs.length p2,.slice A3 os.length p3],.int .i64 ch] w fun e w' => e = .returned (.int .i64 (outOf hs os ch))∧Below w.heap.size w w':=by
 have HH:=hd_ hr.h
 have HO:=hd_ hr.o
 have HS:=hd_ hsm
 have h60:=hsm.hl
 have h20:=hsm.ol
 clear hr hsm
 go_enter Tryz.func59,Tryz.ntmps59
 go_wp2_with fail
 go_loopw [5,13] (fun vx i wr => ∃ (k : Nat) (x : Int),k ≤ hs.length∧i = .int .i64 k∧vx = .int .i64 x∧Hid ((hs.take k).foldl (outH ch) 0 = x)∧wr.heap[w.heap.size]? = some (.cells #[.int .i64 bt,.int .i64 bn,.int .i64 bw,.slice A1 cs.length p1,.slice A2 hs.length p2,.slice A3 os.length p3] 39 (0,0))∧Below w.heap.size w wr) (fun _ i _ => hs.length - (intOf i).toNat)
 case atStart => exact ⟨0,_,Nat.zero_le _,rfl,rfl,hd_ rfl,zqi rfl,bl_⟩
 case round =>
  obtain ⟨k,x,hk,rfl,rfl,Hx,hbox,hbw⟩:=hrel
  have hbz:=hbw.size
  obtain ⟨eh,e0,e1,e2,e3,e4,e5,ef,ezz⟩:=own6 (Below.refl wr.heap.size wr) (gz_ hbox).1 hbox
  have EH:=hd_ eh
  clear eh hbox
  have bd_x:=HS.out.outH_bd ch k hk
  rw [Hx.out] at bd_x
  obtain ⟨x1,x2⟩:=bd_x
  by_cases hlt : k < hs.length
  ·
   obtain ⟨b,off,rfl,hbB,c0,c1,c2,c3,c4,c5,c6⟩:=Htlc.rd (HH.out.below hbw) hlt
   obtain ⟨⟨m1,m2⟩,m3,m4⟩:=HS.out.h k hlt
   clear e0 e1 e2 e3 e4 e5 ef
   have Fx:=hd_ (zqq hs (outH ch) 0 hlt)
   cases tx : (hs[k].Out == ch)
   ·
    have Kx:=hd_ (show outH ch x hs[k] = x by simp [outH,tx])
    go_wp2_with fail
    go_roundw
    case rel => exact ⟨k + 1,_,by omega,by go_num,by first | rfl | go_num,hd_ (by first | (rw [Fx.out,Hx.out,Kx.out];done) | (rw [Fx.out,Hx.out,Kx.out];omega)),zqd ezz EH.out,bl_⟩
    case measure => simp [intOf];omega
   have Kx:=hd_ (show outH ch x hs[k] = x + hs[k].AmtOut by simp [outH,tx])
   go_wp2_with fail
   go_roundw
   case rel => exact ⟨k + 1,_,by omega,by go_num,by first | rfl | go_num,hd_ (by first | (rw [Fx.out,Hx.out,Kx.out];done) | (rw [Fx.out,Hx.out,Kx.out];omega)),zqd ezz EH.out,bl_⟩
   case measure => simp [intOf];omega
  obtain rfl : k = hs.length:=by omega
  have qx:=Hx.out
  rw [List.take_length] at qx
  have Qx:=hd_ qx
  clear qx
  have HZx : Hid (hs.foldl (outH ch) 0 = x):=Qx
  go_wp2_with fail
  obtain ⟨wo,rfl⟩ : ∃ wo : World,wo = wr:=⟨_,rfl⟩
  go_loopw [5,29] (fun vu i wr => ∃ (k : Nat) (u : Int),k ≤ os.length∧i = .int .i64 k∧vu = .int .i64 u∧Hid ((os.take k).foldl (outC ch) x = u)∧wr.heap[w.heap.size]? = some (.cells #[.int .i64 bt,.int .i64 bn,.int .i64 bw,.slice A1 cs.length p1,.slice A2 hs.length p2,.slice A3 os.length p3] 39 (0,0))∧Below w.heap.size w wr) (fun _ i _ => os.length - (intOf i).toNat)
  case atStart => exact ⟨0,_,Nat.zero_le _,rfl,rfl,hd_ rfl,EH.out,bl_⟩
  case round =>
   obtain ⟨k,u,hk,rfl,rfl,Hu,hbox,hbw⟩:=hrel
   have hbz:=hbw.size
   obtain ⟨eh,e0,e1,e2,e3,e4,e5,ef,ezz⟩:=own6 (Below.refl wr.heap.size wr) (gz_ hbox).1 hbox
   have EH:=hd_ eh
   clear eh hbox
   have bd_u:=HS.out.outC_bd ch x (by omega) k hk
   rw [Hu.out] at bd_u
   obtain ⟨u1,u2⟩:=bd_u
   by_cases hlt : k < os.length
   ·
    obtain ⟨b,off,rfl,hbB,c0,c1,c2,c3,c4⟩:=Circle.rd (HO.out.below hbw) hlt
    obtain ⟨⟨m1,m2⟩,m3,m4⟩:=HS.out.o k hlt
    clear e0 e1 e2 e3 e4 e5 ef
    have Fu:=hd_ (zqq os (outC ch) x hlt)
    cases tu : (os[k].From == ch)
    ·
     have Ku:=hd_ (show outC ch u os[k] = u by simp [outC,tu])
     go_wp2_with fail
     go_roundw
     case rel => exact ⟨k + 1,_,by omega,by go_num,by first | rfl | go_num,hd_ (by first | (rw [Fu.out,Hu.out,Ku.out];done) | (rw [Fu.out,Hu.out,Ku.out];omega)),zqd ezz EH.out,bl_⟩
     case measure => simp [intOf];omega
    have Ku:=hd_ (show outC ch u os[k] = u + (os[k].Amt + os[k].Fee) by simp [outC,tu])
    go_wp2_with fail
    go_roundw
    case rel => exact ⟨k + 1,_,by omega,by go_num,by first | rfl | go_num,hd_ (by first | (rw [Fu.out,Hu.out,Ku.out];done) | (rw [Fu.out,Hu.out,Ku.out];omega)),zqd ezz EH.out,bl_⟩
    case measure => simp [intOf];omega
   obtain rfl : k = os.length:=by omega
   have qu:=Hu.out
   rw [List.take_length] at qu
   have Qu:=hd_ qu
   clear qu
   go_wp2_with fail
   go_ret
   have Ex : outOf hs os ch = u:=by unfold outOf;rw [HZx.out,Qu.out]
   refine ⟨?_,bl_⟩
   rw [Ex]
   rfl
set_option maxRecDepth 100000 in
set_option maxHeartbeats 4000000 in
theorem s_l07In (bt bn bw : Int) (cs : List Chan) (hs : List Htlc) (os : List Circle) (A1 A2 A3 : Option Addr) (p1 p2 p3 : Nat) (ch : Int) (w : World) (hsm : Small hs os) (hr : RdBook w w.heap.size A1 cs A2 hs A3 os) :
  Calls Tryz.prog 60 #[.agg #[.int .i64 bt,.int .i64 bn,.int .i64 bw,.slice A1 cs.length p1,.slice A2 hs.length p2,.slice A3 os.length p3],.int .i64 ch] w fun e w' => e = .returned (.int .i64 (inOf hs os ch))∧Below w.heap.size w w':=by
 have HH:=hd_ hr.h
 have HO:=hd_ hr.o
 have HS:=hd_ hsm
 have h60:=hsm.hl
 have h20:=hsm.ol
 clear hr hsm
 go_enter Tryz.func60,Tryz.ntmps60
 go_wp2_with fail
 go_loopw [5,13] (fun vy i wr => ∃ (k : Nat) (y : Int),k ≤ hs.length∧i = .int .i64 k∧vy = .int .i64 y∧Hid ((hs.take k).foldl (inH ch) 0 = y)∧wr.heap[w.heap.size]? = some (.cells #[.int .i64 bt,.int .i64 bn,.int .i64 bw,.slice A1 cs.length p1,.slice A2 hs.length p2,.slice A3 os.length p3] 39 (0,0))∧Below w.heap.size w wr) (fun _ i _ => hs.length - (intOf i).toNat)
 case atStart => exact ⟨0,_,Nat.zero_le _,rfl,rfl,hd_ rfl,zqi rfl,bl_⟩
 case round =>
  obtain ⟨k,y,hk,rfl,rfl,Hy,hbox,hbw⟩:=hrel
  have hbz:=hbw.size
  obtain ⟨eh,e0,e1,e2,e3,e4,e5,ef,ezz⟩:=own6 (Below.refl wr.heap.size wr) (gz_ hbox).1 hbox
  have EH:=hd_ eh
  clear eh hbox
  have bd_y:=HS.out.inH_bd ch k hk
  rw [Hy.out] at bd_y
  obtain ⟨y1,y2⟩:=bd_y
  by_cases hlt : k < hs.length
  ·
   obtain ⟨b,off,rfl,hbB,c0,c1,c2,c3,c4,c5,c6⟩:=Htlc.rd (HH.out.below hbw) hlt
   obtain ⟨⟨m1,m2⟩,m3,m4⟩:=HS.out.h k hlt
   clear e0 e1 e2 e3 e4 e5 ef
   have Fy:=hd_ (zqq hs (inH ch) 0 hlt)
   cases ty : (hs[k].In == ch)
   ·
    have Ky:=hd_ (show inH ch y hs[k] = y by simp [inH,ty])
    go_wp2_with fail
    go_roundw
    case rel => exact ⟨k + 1,_,by omega,by go_num,by first | rfl | go_num,hd_ (by first | (rw [Fy.out,Hy.out,Ky.out];done) | (rw [Fy.out,Hy.out,Ky.out];omega)),zqd ezz EH.out,bl_⟩
    case measure => simp [intOf];omega
   have Ky:=hd_ (show inH ch y hs[k] = y + hs[k].AmtIn by simp [inH,ty])
   go_wp2_with fail
   go_roundw
   case rel => exact ⟨k + 1,_,by omega,by go_num,by first | rfl | go_num,hd_ (by first | (rw [Fy.out,Hy.out,Ky.out];done) | (rw [Fy.out,Hy.out,Ky.out];omega)),zqd ezz EH.out,bl_⟩
   case measure => simp [intOf];omega
  obtain rfl : k = hs.length:=by omega
  have qy:=Hy.out
  rw [List.take_length] at qy
  have Qy:=hd_ qy
  clear qy
  have HZy : Hid (hs.foldl (inH ch) 0 = y):=Qy
  go_wp2_with fail
  obtain ⟨wo,rfl⟩ : ∃ wo : World,wo = wr:=⟨_,rfl⟩
  go_loopw [5,29] (fun vq i wr => ∃ (k : Nat) (q : Int),k ≤ os.length∧i = .int .i64 k∧vq = .int .i64 q∧Hid ((os.take k).foldl (inC ch) y = q)∧wr.heap[w.heap.size]? = some (.cells #[.int .i64 bt,.int .i64 bn,.int .i64 bw,.slice A1 cs.length p1,.slice A2 hs.length p2,.slice A3 os.length p3] 39 (0,0))∧Below w.heap.size w wr) (fun _ i _ => os.length - (intOf i).toNat)
  case atStart => exact ⟨0,_,Nat.zero_le _,rfl,rfl,hd_ rfl,EH.out,bl_⟩
  case round =>
   obtain ⟨k,q,hk,rfl,rfl,Hq,hbox,hbw⟩:=hrel
   have hbz:=hbw.size
   obtain ⟨eh,e0,e1,e2,e3,e4,e5,ef,ezz⟩:=own6 (Below.refl wr.heap.size wr) (gz_ hbox).1 hbox
   have EH:=hd_ eh
   clear eh hbox
   have bd_q:=HS.out.inC_bd ch y (by omega) k hk
   rw [Hq.out] at bd_q
   obtain ⟨q1,q2⟩:=bd_q
   by_cases hlt : k < os.length
   ·
    obtain ⟨b,off,rfl,hbB,c0,c1,c2,c3,c4⟩:=Circle.rd (HO.out.below hbw) hlt
    obtain ⟨⟨m1,m2⟩,m3,m4⟩:=HS.out.o k hlt
    clear e0 e1 e2 e3 e4 e5 ef
    have Fq:=hd_ (zqq os (inC ch) y hlt)
    cases tq : (os[k].To == ch)
    ·
     have Kq:=hd_ (show inC ch q os[k] = q by simp [inC,tq])
     go_wp2_with fail
     go_roundw
     case rel => exact ⟨k + 1,_,by omega,by go_num,by first | rfl | go_num,hd_ (by first | (rw [Fq.out,Hq.out,Kq.out];done) | (rw [Fq.out,Hq.out,Kq.out];omega)),zqd ezz EH.out,bl_⟩
     case measure => simp [intOf];omega
    have Kq:=hd_ (show inC ch q os[k] = q + os[k].Amt by simp [inC,tq])
    go_wp2_with fail
    go_roundw
    case rel => exact ⟨k + 1,_,by omega,by go_num,by first | rfl | go_num,hd_ (by first | (rw [Fq.out,Hq.out,Kq.out];done) | (rw [Fq.out,Hq.out,Kq.out];omega)),zqd ezz EH.out,bl_⟩
    case measure => simp [intOf];omega
   obtain rfl : k = os.length:=by omega
   have qq:=Hq.out
   rw [List.take_length] at qq
   have Qq:=hd_ qq
   clear qq
   go_wp2_with fail
   go_ret
   have Ey : inOf hs os ch = q:=by unfold inOf;rw [HZy.out,Qq.out]
   refine ⟨?_,bl_⟩
   rw [Ey]
   rfl
def ledgerB (z : Int) (l : List Line) : Bool:=amtB z && decide (l.length ≤ 320) && linesB l
def postingB (z : Int) (l : List Line) : Bool:=inB z 1 1125899906842624 && decide (2 ≤ l.length) && decide (l.length ≤ 8) && linesB l
theorem ledgerB_iff {z : Int} {l : List Line} : ledgerB z l = true ↔ (0 ≤ z∧z ≤ 1125899906842624)∧l.length ≤ 320∧linesB l = true:=by
 simp only [ledgerB,Bool.and_eq_true,zja,decide_eq_true_eq,and_assoc]
theorem postingB_iff {z : Int} {l : List Line} : postingB z l = true ↔ (1 ≤ z∧z ≤ 1125899906842624)∧2 ≤ l.length∧l.length ≤ 8∧linesB l = true:=by
 simp only [postingB,Bool.and_eq_true,zjj,decide_eq_true_eq,and_assoc]
theorem zgz {l : List Line} (h : linesB l = true) {k : Nat} (hk : k < l.length) : accB l[k].Kind l[k].Ch = true∧(l[k].Amt == 0) = false∧(-1125899906842624 ≤ l[k].Amt∧l[k].Amt ≤ 1125899906842624):=by
 simp only [linesB,Bool.and_eq_true] at h
 exact zyy hk (allTo_iff.1 h.1 k hk)
theorem zjt (z : Int) (l : List Line) (A : Option Addr) (cap : Nat) (w : World) (hl : l.length ≤ 1048576) (hr : Rd w w.heap.size 3 A (l.map Line.cells)) :
  Calls Tryz.prog 45 #[.agg #[.int .i64 z,.slice A l.length cap]] w fun e w' => e = .returned (.bool (ledgerB z l))∧Below w.heap.size w w':=by
 have HR:=hd_ hr
 clear hr
 cases h1 : amtB z
 ·
  have HE:=hd_ (show ledgerB z l = false by simp [ledgerB,h1])
  go_enter Tryz.func45,Tryz.ntmps45
  go_wp2_with (go_at_call 50;refine (zqo _ _).mono ?_;rintro e w' ⟨rfl,rfl⟩)
  go_ret
  exact ⟨zqf HE.out.symm,bl_⟩
 by_cases h2 : l.length ≤ 320
 ·
  have h2' : decide ((l.length : Int) ≤ 320) = true:=decide_eq_true (by omega)
  have HE:=hd_ (show ledgerB z l = linesB l by simp [ledgerB,h1,h2])
  go_enter Tryz.func45,Tryz.ntmps45
  go_wp2_with (go_at_call 50;refine (zqo _ _).mono ?_;rintro e w' ⟨rfl,rfl⟩)
  refine (zgn l _ _ _ (by omega) ((HR.out.below (bl_)).more (by first | omega | (simp;omega) | (simp;done)))).mono ?_
  rintro e w1 ⟨rfl,hb1⟩
  have z1:=hb1.size
  try simp at z1
  go_wp2_with fail
  go_ret
  exact ⟨zqf HE.out.symm,bl_⟩
 have h2' : decide ((l.length : Int) ≤ 320) = false:=decide_eq_false (by omega)
 have HE:=hd_ (show ledgerB z l = false by simp [ledgerB,h2])
 go_enter Tryz.func45,Tryz.ntmps45
 go_wp2_with (go_at_call 50;refine (zqo _ _).mono ?_;rintro e w' ⟨rfl,rfl⟩)
 go_ret
 exact ⟨zqf HE.out.symm,bl_⟩
theorem zwo (z : Int) (l : List Line) (A : Option Addr) (cap : Nat) (w : World) (hl : l.length ≤ 1048576) (hr : Rd w w.heap.size 3 A (l.map Line.cells)) :
  Calls Tryz.prog 99 #[.agg #[.int .i64 z,.slice A l.length cap]] w fun e w' => e = .returned (.bool (postingB z l))∧Below w.heap.size w w':=by
 have HR:=hd_ hr
 clear hr
 cases h1 : inB z 1 1125899906842624
 ·
  have HE:=hd_ (show postingB z l = false by simp [postingB,h1])
  go_enter Tryz.func99,Tryz.ntmps99
  go_wp2_with (go_at_call 82;refine (i_in _ _ _ _).mono ?_;rintro e w' ⟨rfl,rfl⟩)
  go_ret
  exact ⟨zqf HE.out.symm,bl_⟩
 cases h2 : inB (l.length : Int) 2 8
 ·
  have h2n : ¬ (2 ≤ l.length∧l.length ≤ 8):=fun hh => by rw [zjj.2 (by omega)] at h2;cases h2
  have HE:=hd_ (show postingB z l = false by simp only [postingB];rw [Bool.and_assoc,Bool.and_assoc];simp only [Bool.and_eq_false_iff,decide_eq_false_iff_not];omega)
  go_enter Tryz.func99,Tryz.ntmps99
  go_wp2_with (go_at_call 82;refine (i_in _ _ _ _).mono ?_;rintro e w' ⟨rfl,rfl⟩)
  go_ret
  exact ⟨zqf HE.out.symm,bl_⟩
 have h2n:=zjj.1 h2
 have HE:=hd_ (show postingB z l = linesB l by simp only [postingB,h1,Bool.true_and];rw [decide_eq_true (by omega : 2 ≤ l.length),decide_eq_true (by omega : l.length ≤ 8)];rfl)
 go_enter Tryz.func99,Tryz.ntmps99
 go_wp2_with (go_at_call 82;refine (i_in _ _ _ _).mono ?_;rintro e w' ⟨rfl,rfl⟩)
 refine (zgn l _ _ _ (by omega) ((HR.out.below (bl_)).more (by first | omega | (simp;omega) | (simp;done)))).mono ?_
 rintro e w1 ⟨rfl,hb1⟩
 have z1:=hb1.size
 try simp at z1
 go_wp2_with fail
 go_ret
 exact ⟨zqf HE.out.symm,bl_⟩
end Go.Proofs.YtdbmkfmenfcbiaaGreat
namespace Go.Proofs.YtdbmkfmenfcbiaaGreat
open Go.RowKit Go.Deep

structure OwB (w : World) (B : Nat) (b : Bk) (A1 A2 A3 : Option Addr) (p1 p2 p3 : Nat) : Prop where
  c : Ow w B 103 7 (.slice A1 b.cs.length p1) (b.cs.map Chan.cells)
  h : Ow w B 70 7 (.slice A2 b.hs.length p2) (b.hs.map Htlc.cells)
  o : Ow w B 93 5 (.slice A3 b.os.length p3) (b.os.map Circle.cells)
section
variable {w w' : World} {B B' : Nat} {b : Bk} {A1 A2 A3 : Option Addr} {p1 p2 p3 : Nat}
theorem OwB.below (h : OwB w B b A1 A2 A3 p1 p2 p3) (hb : Below w.heap.size w w') : OwB w' B b A1 A2 A3 p1 p2 p3:=⟨h.c.below hb,h.h.below hb,h.o.below hb⟩
theorem OwB.more (h : OwB w B b A1 A2 A3 p1 p2 p3) (hB : B' ≤ B) : OwB w B' b A1 A2 A3 p1 p2 p3:=⟨h.c.more hB,h.h.more hB,h.o.more hB⟩
theorem OwB.alloc (h : OwB w B b A1 A2 A3 p1 p2 p3) (o : Obj) : OwB (w.alloc o) B b A1 A2 A3 p1 p2 p3:=⟨h.c.alloc o,h.h.alloc o,h.o.alloc o⟩
theorem OwB.rd (h : OwB w B b A1 A2 A3 p1 p2 p3) : RdBook w w.heap.size A1 b.cs A2 b.hs A3 b.os:=⟨h.c.rd,h.h.rd,h.o.rd⟩
theorem OwB.fr {ts : List TypeId} (h : OwB w B b A1 A2 A3 p1 p2 p3) (hf : Fr ts w w') (h1 : 103 ∉ ts) (h2 : 70 ∉ ts) (h3 : 93 ∉ ts) : OwB w' B b A1 A2 A3 p1 p2 p3:=⟨hf.ow h.c h1,hf.ow h.h h2,hf.ow h.o h3⟩
theorem OwB.aside (h : OwB w B b A1 A2 A3 p1 p2 p3) {X i : Nat} {t : TypeId} {cs : Array Value} (hx : w.heap[X]? = some (.cells cs t (0,0))) (h1 : 103 ≠ t) (h2 : 70 ≠ t) (h3 : 93 ≠ t) (u : Value) : OwB (w.setCell ⟨X,i,none⟩ u) B b A1 A2 A3 p1 p2 p3 :=
  ⟨h.c.aside hx h1 u,h.h.aside hx h2 u,h.o.aside hx h3 u⟩
theorem OwB.drew (h : OwB w B b A1 A2 A3 p1 p2 p3) : OwB w.drew B b A1 A2 A3 p1 p2 p3:=⟨h.c,h.h,h.o⟩
end
theorem OwB.nil_ (w : World) (B : Nat) (t n u : Int) : OwB w B ⟨t,n,u,[],[],[]⟩ none none none 0 0 0:=⟨Ow.nil_,Ow.nil_,Ow.nil_⟩
theorem obd_ {w w' : World} {B : Nat} {b : Bk} {A1 A2 A3 : Option Addr} {p1 p2 p3 : Nat} (hw : w.drew = w') (h : Hid (OwB w B b A1 A2 A3 p1 p2 p3)) : Hid (OwB w' B b A1 A2 A3 p1 p2 p3):=hw ▸ h.out.drew
theorem oba_ {w w' : World} {o : Obj} {B : Nat} {b : Bk} {A1 A2 A3 : Option Addr} {p1 p2 p3 : Nat} (hw : w' = w.alloc o) (h : Hid (OwB w B b A1 A2 A3 p1 p2 p3)) : Hid (OwB w' B b A1 A2 A3 p1 p2 p3):=hw ▸ h.out.alloc o
end Go.Proofs.YtdbmkfmenfcbiaaGreat
namespace Go.Proofs.YtdbmkfmenfcbiaaGreat
open Go.RowKit

theorem ids_rise {bt bn bw : Int} {cs : List Chan} {hs : List Htlc} {os : List Circle} (h : bookB bt bn bw cs hs os = true) : cs.Pairwise (fun p q => p.Id < q.Id):=by
  simp only [bookB,Bool.and_eq_true] at h
  have h8:=everyTo_iff.1 h.2
  have step : ∀ j,(hj : j + 1 < cs.length) → cs[j].Id < cs[j + 1].Id:=fun j hj => by
    have:=h8 (j + 1) hj
    rw [zvb hj (by omega),Bool.and_eq_true,decide_eq_true_eq] at this
    exact this.2
  have far : ∀ d i,(hi : i + d + 1 < cs.length) → cs[i].Id < cs[i + d + 1].Id:=by
    intro d
    induction d with
    | zero => exact fun i hi => step i hi
    | succ d ih =>
      intro i hi
      have h1:=ih i (by omega)
      have h2:=step (i + d + 1) (by omega)
      exact Int.lt_trans h1 h2
  rw [List.pairwise_iff_getElem]
  intro i j hi hj hij
  obtain ⟨d,rfl⟩ : ∃ d,j = i + d + 1:=⟨j - i - 1,by omega⟩
  exact far d i hj
/-! no sum of the law wraps -/
theorem info_int : (Tryz.prog.info? 3).map (fun i => (i.zero,i.size,i.bytes)) = some (some (.int .i64 0),1,8):=by kernel_rfl
theorem zwd {α : Type} (z : List Int) (l : List α) (f : α → Int) {k : Nat} (hk : k < l.length) : z ++ (l.take (k + 1)).map f = (z ++ (l.take k).map f) ++ [f l[k]]:=by
 rw [List.take_succ_eq_append_getElem hk,List.map_append,List.append_assoc]
 rfl
theorem zhd {α : Type} (z : List Int) (l : List α) (f : α → Int) {k : Nat} (hk : k ≤ l.length) : (z ++ (l.take k).map f).length = z.length + k:=by
 simp;omega
set_option maxRecDepth 100000 in
set_option maxHeartbeats 4000000 in
theorem zte (bt bn bw : Int) (cs : List Chan) (hs : List Htlc) (os : List Circle) (A1 A2 A3 : Option Addr) (p1 p2 p3 : Nat) (w : World) (h60 : hs.length ≤ 60) (h20 : os.length ≤ 20) (hr : RdBook w w.heap.size A1 cs A2 hs A3 os) :
  Calls Tryz.prog 105 #[.agg #[.int .i64 bt,.int .i64 bn,.int .i64 bw,.slice A1 cs.length p1,.slice A2 hs.length p2,.slice A3 os.length p3]] w fun e w' => ∃ A cap,e = .returned (.slice A (keysOf hs os).length cap)∧Ow w' w.heap.size 3 1 (.slice A (keysOf hs os).length cap) ((keysOf hs os).map intCells)∧Below w.heap.size w w':=by
 have HH:=hd_ hr.h
 have HO:=hd_ hr.o
 clear hr
 obtain ⟨i0,hi,hz0,hz1,hz2⟩:=info_parts info_int
 have HI:=hd_ hi
 have HZ0:=hd_ hz0
 have HZ1:=hd_ hz1
 have HZ2:=hd_ hz2
 clear hi hz0 hz1 hz2
 go_enter Tryz.func105,Tryz.ntmps105
 go_wp2_with fail
 go_loopw [3,12] (fun vk i wr => ∃ (k : Nat) (B : Option Addr) (cp : Nat),k ≤ hs.length∧i = .int .i64 k∧vk = .slice B ([] ++ (hs.take k).map Htlc.Key).length cp∧Ow wr (w.heap.size + 1) 3 1 (.slice B ([] ++ (hs.take k).map Htlc.Key).length cp) (([] ++ (hs.take k).map Htlc.Key).map intCells)∧wr.heap[w.heap.size]? = some (.cells #[.int .i64 bt,.int .i64 bn,.int .i64 bw,.slice A1 cs.length p1,.slice A2 hs.length p2,.slice A3 os.length p3] 39 (0,0))∧Below w.heap.size w wr) (fun _ i _ => hs.length - (intOf i).toNat)
 case atStart =>
  refine ⟨0,_,_,Nat.zero_le _,rfl,rfl,?_,zqd (by simp) (zqi rfl),bl_⟩
  exact Ow.empty_ (by simp) (Nat.le_refl _)
 case round =>
  obtain ⟨k,B,cp,hk,rfl,rfl,how,hbox,hbw⟩:=hrel
  have hbz:=hbw.size
  obtain ⟨eh,e0,e1,e2,e3,e4,e5,ef,ezz⟩:=own6 (Below.refl wr.heap.size wr) (gz_ hbox).1 hbox
  have EH:=hd_ eh
  clear eh hbox
  have hrl : ([] ++ (hs.take k).map Htlc.Key).length ≤ 80:=by rw [zhd _ _ _ hk];simp;omega
  have NE:=hd_ (how.ne_ EH.out (by decide))
  have OB:=hd_ how.block
  have HW:=hd_ how
  clear how
  by_cases hlt : k < hs.length
  ·
   obtain ⟨b,off,rfl,hbB,c0,c1,c2,c3,c4,c5,c6⟩:=Htlc.rd (HH.out.below hbw) hlt
   have HK:=hd_ (zwd [] hs Htlc.Key hlt)
   obtain ⟨ROWS,hROWS⟩ : ∃ R,([] ++ (hs.take k).map Htlc.Key) = R:=⟨_,rfl⟩
   rw [hROWS] at hrl NE OB HW HK ⊢
   clear hROWS
   have KE:=hd_ (fun o1 o2 (w6 : World) (hgr : ((wr.alloc o1).alloc o2).grownBy w6 (Value.slice B ROWS.length cp).ownBlock) => ownG6 hgr NE.out (zqd (by simp;omega) (zqd ezz EH.out)))
   have KB:=hd_ (fun o1 o2 (w6 : World) (hgr : ((wr.alloc o1).alloc o2).grownBy w6 (Value.slice B ROWS.length cp).ownBlock) => ((hbw.alloc (Nat.le_trans (Nat.le_refl _) hbz) o1).alloc (by simp;omega) o2).grown hgr (by simp;omega) (fun k e => by have:=(OB.out k e).1;omega))
   go_wp2_with (at_builtin;refine zqz rfl _ _ _ rfl (w.heap.size + 1) 3 i0 _ 1 8 Tryz.underlying41 HI HZ0 HZ1 HZ2 rfl (by decide) (.slice B ROWS.length cp) (ROWS.map intCells) rfl ((HW.out.alloc _).alloc _) (wr.heap.size + 1) 1 [.int .i64 hs[k].Key] 3 rfl (zqi (by first | rfl | (simp;done))) rfl (by simp [Value.oneCell']) (by rw [List.length_map];omega) (by decide) (by first | omega | (simp;omega) | (simp;done)) ?_;intro g cap' w6 how6 hgr6 hat6 hlt6;rw [List.length_map] at how6;rw [List.length_map];obtain ⟨xh,x0,x1,x2,x3,x4,x5,xf,xz⟩:=KE.out _ _ _ hgr6;have hb6:=KB.out _ _ _ hgr6;have XH:=hd_ xh;have O6:=hd_ how6;clear xh how6 hgr6 hat6)
   go_roundw
   case rel =>
    refine ⟨k + 1,some ⟨g,0,none⟩,cap',by omega,by go_num,by rw [HK.out,List.length_append];rfl,?_,XH.out,hb6⟩
    rw [HK.out,List.map_append,List.length_append]
    exact O6.out
   case measure => simp [intOf];omega
  obtain rfl : k = hs.length:=by omega
  rw [List.take_length,List.nil_append] at HW hrl ⊢
  rw [List.length_map] at hrl
  go_wp2_with fail
  obtain ⟨wo,rfl⟩ : ∃ wo : World,wo = wr:=⟨_,rfl⟩
  go_loopw [3,25] (fun vk i wr => ∃ (k : Nat) (B : Option Addr) (cp : Nat),k ≤ os.length∧i = .int .i64 k∧vk = .slice B ((hs.map Htlc.Key) ++ (os.take k).map Circle.Key).length cp∧Ow wr (w.heap.size + 1) 3 1 (.slice B ((hs.map Htlc.Key) ++ (os.take k).map Circle.Key).length cp) (((hs.map Htlc.Key) ++ (os.take k).map Circle.Key).map intCells)∧wr.heap[w.heap.size]? = some (.cells #[.int .i64 bt,.int .i64 bn,.int .i64 bw,.slice A1 cs.length p1,.slice A2 hs.length p2,.slice A3 os.length p3] 39 (0,0))∧Below w.heap.size w wr) (fun _ i _ => os.length - (intOf i).toNat)
  case atStart => exact ⟨0,B,cp,Nat.zero_le _,rfl,by simp,by simpa using HW.out,EH.out,hbw⟩
  case round =>
   obtain ⟨k,B,cp,hk,rfl,rfl,how,hbox,hbw⟩:=hrel
   have hbz:=hbw.size
   obtain ⟨eh,e0,e1,e2,e3,e4,e5,ef,ezz⟩:=own6 (Below.refl wr.heap.size wr) (gz_ hbox).1 hbox
   have EH:=hd_ eh
   clear eh hbox
   have hrl : ((hs.map Htlc.Key) ++ (os.take k).map Circle.Key).length ≤ 80:=by rw [zhd _ _ _ hk];rw [List.length_map];omega
   have NE:=hd_ (how.ne_ EH.out (by decide))
   have OB:=hd_ how.block
   have HW:=hd_ how
   clear how
   by_cases hlt : k < os.length
   ·
    obtain ⟨b,off,rfl,hbB,c0,c1,c2,c3,c4⟩:=Circle.rd (HO.out.below hbw) hlt
    have HK:=hd_ (zwd (hs.map Htlc.Key) os Circle.Key hlt)
    obtain ⟨ROWS,hROWS⟩ : ∃ R,((hs.map Htlc.Key) ++ (os.take k).map Circle.Key) = R:=⟨_,rfl⟩
    rw [hROWS] at hrl NE OB HW HK ⊢
    clear hROWS
    have KE:=hd_ (fun o1 o2 (w6 : World) (hgr : ((wr.alloc o1).alloc o2).grownBy w6 (Value.slice B ROWS.length cp).ownBlock) => ownG6 hgr NE.out (zqd (by simp;omega) (zqd ezz EH.out)))
    have KB:=hd_ (fun o1 o2 (w6 : World) (hgr : ((wr.alloc o1).alloc o2).grownBy w6 (Value.slice B ROWS.length cp).ownBlock) => ((hbw.alloc (Nat.le_trans (Nat.le_refl _) hbz) o1).alloc (by simp;omega) o2).grown hgr (by simp;omega) (fun k e => by have:=(OB.out k e).1;omega))
    go_wp2_with (at_builtin;refine zqz rfl _ _ _ rfl (w.heap.size + 1) 3 i0 _ 1 8 Tryz.underlying41 HI HZ0 HZ1 HZ2 rfl (by decide) (.slice B ROWS.length cp) (ROWS.map intCells) rfl ((HW.out.alloc _).alloc _) (wr.heap.size + 1) 1 [.int .i64 os[k].Key] 3 rfl (zqi (by first | rfl | (simp;done))) rfl (by simp [Value.oneCell']) (by rw [List.length_map];omega) (by decide) (by first | omega | (simp;omega) | (simp;done)) ?_;intro g cap' w6 how6 hgr6 hat6 hlt6;rw [List.length_map] at how6;rw [List.length_map];obtain ⟨xh,x0,x1,x2,x3,x4,x5,xf,xz⟩:=KE.out _ _ _ hgr6;have hb6:=KB.out _ _ _ hgr6;have XH:=hd_ xh;have O6:=hd_ how6;clear xh how6 hgr6 hat6)
    go_roundw
    case rel =>
     refine ⟨k + 1,some ⟨g,0,none⟩,cap',by omega,by go_num,by rw [HK.out,List.length_append];rfl,?_,XH.out,hb6⟩
     rw [HK.out,List.map_append,List.length_append]
     exact O6.out
    case measure => simp [intOf];omega
   obtain rfl : k = os.length:=by omega
   have hkeys : (hs.map Htlc.Key) ++ (os.take os.length).map Circle.Key = keysOf hs os:=by rw [List.take_length];rfl
   rw [hkeys] at HW ⊢
   clear hkeys
   go_wp2_with fail
   go_ret
   exact ⟨_,_,rfl,HW.out.more (by omega),bl_⟩
theorem zky {k c k' c' : Int} : lessB k c k' c' = true ↔ k < k' ∨ (k = k'∧c < c'):=by
 simp [lessB]
theorem less_eq {k c k' c' : Int} (h1 : lessB k c k' c' = false) (h2 : lessB k' c' k c = false) : k = k'∧c = c':=by
 rw [← Bool.not_eq_true,zky] at h1 h2
 omega
def lessL (x y : Line) : Prop:=lessB x.Kind x.Ch y.Kind y.Ch = true
theorem zgy {x y : Line} : lessL x y ↔ x.Kind < y.Kind ∨ (x.Kind = y.Kind∧x.Ch < y.Ch):=zky
theorem zwp {x y z : Line} (h1 : lessL x y) (h2 : lessL y z) : lessL x z:=by
 rw [zgy] at *
 omega
def lineOk (x : Line) : Bool:=accB x.Kind x.Ch && !(x.Amt == 0) && rangeB x.Amt
theorem linesB_iff {l : List Line} : linesB l = true ↔ (∀ x ∈ l,lineOk x = true)∧l.Pairwise lessL∧lineSum l = 0:=by
 unfold linesB
 rw [Bool.and_eq_true,allTo_iff,decide_eq_true_eq]
 constructor
 rotate_left
 ·
  rintro ⟨h,hp,hs⟩
  refine ⟨fun i hi => ?_,hs⟩
  have hm:=h _ (List.getElem_mem hi)
  cases i with
  | zero => rw [zvr hi];exact hm
  | succ j =>
   rw [zvg hi (by omega),Bool.and_eq_true]
   exact ⟨hm,List.pairwise_iff_getElem.1 hp j (j + 1) (by omega) hi (by omega)⟩
 rintro ⟨h,hs⟩
 have hadj : ∀ j (hj : j + 1 < l.length),lessL (l[j]'(by omega)) l[j + 1]:=by
  intro j hj
  have:=h (j + 1) hj
  rw [zvg hj (by omega)] at this
  simp only [Bool.and_eq_true] at this
  exact this.2
 refine ⟨fun x hx => ?_,List.pairwise_iff_getElem.2 ?_,hs⟩
 ·
  obtain ⟨k,hk,rfl⟩:=List.mem_iff_getElem.1 hx
  have:=h k hk
  cases k with
  | zero => rw [zvr hk] at this;exact this
  | succ j =>
   rw [zvg hk (by omega),Bool.and_eq_true] at this
   exact this.1
 intro i j hi hj hij
 induction j with
 | zero => omega
 | succ j ih =>
  by_cases e : i = j
  ·
   subst e;exact hadj i hj
  exact zwp (ih (by omega) (by omega)) (hadj j hj)
theorem zvh : ∀ (l : List Line) (s : Int),l.foldl (fun s x => s + x.Amt) s = s + lineSum l
 | [],s => by simp [lineSum]
 | x :: l,s => by
  unfold lineSum
  rw [List.foldl_cons,List.foldl_cons,zvh l,zvh l (0 + x.Amt)]
  omega
theorem zxq (x : Line) (l : List Line) : lineSum (x :: l) = x.Amt + lineSum l:=by
 show (x :: l).foldl (fun s x => s + x.Amt) 0 = _
 rw [List.foldl_cons,zvh]
 omega
def mergeF : List Line → List Line → Option (List Line)
 | [],[] => some []
 | x :: a,[] => (mergeF a []).map (x :: ·)
 | [],y :: b => (mergeF [] b).map (y :: ·)
 | x :: a,y :: b =>
  if lessB x.Kind x.Ch y.Kind y.Ch = true then (mergeF a (y :: b)).map (x :: ·)
  else if lessB y.Kind y.Ch x.Kind x.Ch = true then (mergeF (x :: a) b).map (y :: ·)
  else if rangeB (x.Amt + y.Amt) = true then (if x.Amt + y.Amt = 0 then mergeF a b else (mergeF a b).map (⟨x.Kind,x.Ch,x.Amt + y.Amt⟩ :: ·))
  else none
termination_by a b => a.length + b.length
def bal (k c : Int) : List Line → Int
 | [] => 0
 | x :: l => (if x.Kind = k∧x.Ch = c then x.Amt else 0) + bal k c l
def findB (k c : Int) : List Line → Int
 | [] => 0
 | x :: l => if x.Kind = k∧x.Ch = c then x.Amt else findB k c l
theorem bal_none {k c : Int} : ∀ {l : List Line},(∀ x ∈ l,¬(x.Kind = k∧x.Ch = c)) → bal k c l = 0
 | [],_ => rfl
 | x :: l,h => by rw [bal,if_neg (h x (by simp)),bal_none fun y hy => h y (by simp [hy])];rfl
theorem zpa {k c : Int} : ∀ {l : List Line},l.Pairwise lessL → findB k c l = bal k c l
 | [],_ => rfl
 | x :: l,h => by
  rw [List.pairwise_cons] at h
  rw [findB,bal]
  split
  ·
   rename_i e
   rw [bal_none fun y hy hc => ?_]
   ·
    omega
   have:=zgy.1 (h.1 y hy);omega
  rw [zpa h.2];omega
structure Merged (a b r : List Line) : Prop where
 sum : lineSum r = lineSum a + lineSum b
 len : r.length ≤ a.length + b.length
 bal : ∀ k c,bal k c r = bal k c a + bal k c b
 ok : (∀ x ∈ a,lineOk x = true) → (∀ x ∈ b,lineOk x = true) → ∀ x ∈ r,lineOk x = true
 low : ∀ p,(∀ x ∈ a,lessL p x) → (∀ x ∈ b,lessL p x) → ∀ x ∈ r,lessL p x
 sorted : a.Pairwise lessL → b.Pairwise lessL → r.Pairwise lessL
theorem zvi : ∀ (a b r : List Line),mergeF a b = some r → Merged a b r
 | [],[],r,h => by
  rw [mergeF] at h
  cases h
  exact ⟨rfl,Nat.le_refl _,fun _ _ => rfl,by simp,by simp,by simp⟩
 | x :: a,[],r,h => by
  rw [mergeF,Option.map_eq_some_iff] at h
  obtain ⟨r',h',rfl⟩:=h
  have m:=zvi a [] r' h'
  refine ⟨by rw [zxq,zxq,m.sum];omega,by have:=m.len;simp at this ⊢;omega,fun k c => by simp only [bal,m.bal k c];omega,?_,?_,?_⟩
  ·
   intro h1 h2 y hy
   rcases List.mem_cons.1 hy with rfl | hy
   ·
    exact h1 _ (by simp)
   exact m.ok (fun z hz => h1 z (by simp [hz])) h2 y hy
  ·
   intro p h1 h2 y hy
   rcases List.mem_cons.1 hy with rfl | hy
   ·
    exact h1 _ (by simp)
   exact m.low p (fun z hz => h1 z (by simp [hz])) h2 y hy
  intro h1 h2
  rw [List.pairwise_cons] at h1 ⊢
  exact ⟨m.low x h1.1 (by simp),m.sorted h1.2 h2⟩
 | [],y :: b,r,h => by
  rw [mergeF,Option.map_eq_some_iff] at h
  obtain ⟨r',h',rfl⟩:=h
  have m:=zvi [] b r' h'
  refine ⟨by rw [zxq,zxq,m.sum];omega,by have:=m.len;simp at this ⊢;omega,fun k c => by simp only [bal,m.bal k c];omega,?_,?_,?_⟩
  ·
   intro h1 h2 z hz
   rcases List.mem_cons.1 hz with rfl | hz
   ·
    exact h2 _ (by simp)
   exact m.ok h1 (fun z hz => h2 z (by simp [hz])) z hz
  ·
   intro p h1 h2 z hz
   rcases List.mem_cons.1 hz with rfl | hz
   ·
    exact h2 _ (by simp)
   exact m.low p h1 (fun z hz => h2 z (by simp [hz])) z hz
  intro h1 h2
  rw [List.pairwise_cons] at h2 ⊢
  exact ⟨m.low y (by simp) h2.1,m.sorted h1 h2.2⟩
 | x :: a,y :: b,r,h => by
  rw [mergeF] at h
  by_cases c1 : lessB x.Kind x.Ch y.Kind y.Ch = true
  ·
   rw [if_pos c1,Option.map_eq_some_iff] at h
   obtain ⟨r',h',rfl⟩:=h
   have m:=zvi a (y :: b) r' h'
   refine ⟨by rw [zxq,zxq x a,m.sum];omega,by have:=m.len;simp at this ⊢;omega,fun k c => by simp only [bal,m.bal k c];omega,?_,?_,?_⟩
   ·
    intro h1 h2 z hz
    rcases List.mem_cons.1 hz with rfl | hz
    ·
     exact h1 _ (by simp)
    exact m.ok (fun z hz => h1 z (by simp [hz])) h2 z hz
   ·
    intro p h1 h2 z hz
    rcases List.mem_cons.1 hz with rfl | hz
    ·
     exact h1 _ (by simp)
    exact m.low p (fun z hz => h1 z (by simp [hz])) h2 z hz
   intro h1 h2
   have h2':=h2
   rw [List.pairwise_cons] at h1 h2 ⊢
   refine ⟨m.low x h1.1 (fun z hz => ?_),m.sorted h1.2 h2'⟩
   rcases List.mem_cons.1 hz with rfl | hz
   ·
    exact c1
   exact zwp c1 (h2.1 z hz)
  rw [if_neg c1] at h
  by_cases c2 : lessB y.Kind y.Ch x.Kind x.Ch = true
  ·
   rw [if_pos c2,Option.map_eq_some_iff] at h
   obtain ⟨r',h',rfl⟩:=h
   have m:=zvi (x :: a) b r' h'
   refine ⟨by rw [zxq,zxq y b,m.sum];omega,by have:=m.len;simp at this ⊢;omega,fun k c => by simp only [bal,m.bal k c];omega,?_,?_,?_⟩
   ·
    intro h1 h2 z hz
    rcases List.mem_cons.1 hz with rfl | hz
    ·
     exact h2 _ (by simp)
    exact m.ok h1 (fun z hz => h2 z (by simp [hz])) z hz
   ·
    intro p h1 h2 z hz
    rcases List.mem_cons.1 hz with rfl | hz
    ·
     exact h2 _ (by simp)
    exact m.low p h1 (fun z hz => h2 z (by simp [hz])) z hz
   intro h1 h2
   have h1':=h1
   rw [List.pairwise_cons] at h1 h2 ⊢
   refine ⟨m.low y (fun z hz => ?_) h2.1,m.sorted h1' h2.2⟩
   rcases List.mem_cons.1 hz with rfl | hz
   ·
    exact c2
   exact zwp c2 (h1.1 z hz)
  rw [if_neg c2] at h
  obtain ⟨e1,e2⟩:=less_eq (Bool.eq_false_iff.2 c1) (Bool.eq_false_iff.2 c2)
  by_cases c3 : rangeB (x.Amt + y.Amt) = true
  rotate_left
  ·
   rw [if_neg c3] at h
   cases h
  rw [if_pos c3] at h
  by_cases c4 : x.Amt + y.Amt = 0
  ·
   rw [if_pos c4] at h
   have m:=zvi a b r h
   refine ⟨by rw [zxq,zxq,m.sum];omega,by have:=m.len;simp at this ⊢;omega,fun k c => ?_,?_,?_,?_⟩
   ·
    simp only [bal,m.bal k c,e1,e2]
    split <;> omega
   ·
    intro h1 h2
    exact m.ok (fun z hz => h1 z (by simp [hz])) (fun z hz => h2 z (by simp [hz]))
   ·
    intro p h1 h2
    exact m.low p (fun z hz => h1 z (by simp [hz])) (fun z hz => h2 z (by simp [hz]))
   intro h1 h2
   rw [List.pairwise_cons] at h1 h2
   exact m.sorted h1.2 h2.2
  rw [if_neg c4,Option.map_eq_some_iff] at h
  obtain ⟨r',h',rfl⟩:=h
  have m:=zvi a b r' h'
  refine ⟨by rw [zxq,zxq,zxq,m.sum];simp only;omega,by have:=m.len;simp at this ⊢;omega,fun k c => ?_,?_,?_,?_⟩
  ·
   simp only [bal,m.bal k c,e1,e2]
   split <;> omega
  ·
   intro h1 h2 z hz
   rcases List.mem_cons.1 hz with rfl | hz
   ·
    have:=h1 x (by simp)
    unfold lineOk at this ⊢
    simp only [Bool.and_eq_true] at this ⊢
    exact ⟨⟨this.1.1,by simp [c4]⟩,c3⟩
   exact m.ok (fun z hz => h1 z (by simp [hz])) (fun z hz => h2 z (by simp [hz])) z hz
  ·
   intro p h1 h2 z hz
   rcases List.mem_cons.1 hz with rfl | hz
   ·
    exact h1 x (by simp)
   exact m.low p (fun z hz => h1 z (by simp [hz])) (fun z hz => h2 z (by simp [hz])) z hz
  intro h1 h2
  rw [List.pairwise_cons] at h1 h2 ⊢
  refine ⟨m.low _ h1.1 (fun z hz => ?_),m.sorted h1.2 h2.2⟩
  have:=zgy.1 (h2.1 z hz)
  rw [zgy]
  simp only
  omega
termination_by a b => a.length + b.length
/-! ### One posting posted; postings posted one after the other -/
def postCode (z : Int) (l : List Line) (pz : Int) (pl : List Line) : Int :=
 if ledgerB z l = true∧postingB pz pl = true then (if pz ≤ z then 2 else match mergeF l pl with | none => 3 | some r => if 320 < r.length then 3 else 0) else 1
def postL (z : Int) (l : List Line) (pz : Int) (pl : List Line) : List Line:=if postCode z l pz pl = 0 then (mergeF l pl).getD [] else []
def postZ (z : Int) (l : List Line) (pz : Int) (pl : List Line) : Int:=if postCode z l pz pl = 0 then pz else 0
theorem post_ok {z pz : Int} {l pl : List Line} (h : postCode z l pz pl = 0) : ledgerB z l = true∧postingB pz pl = true∧z < pz∧Merged l pl (postL z l pz pl)∧(postL z l pz pl).length ≤ 320∧postZ z l pz pl = pz∧ledgerB pz (postL z l pz pl) = true:=by
 have h0:=h
 unfold postCode at h
 split at h
 rotate_left
 ·
  cases h
 rename_i hc
 split at h
 ·
  cases h
 rename_i hz
 cases hm : mergeF l pl with
 | none => rw [hm] at h;cases h
 | some r =>
  rw [hm] at h
  simp only at h
  split at h
  ·
   cases h
  rename_i hlen
  have he : postL z l pz pl = r:=by unfold postL;rw [if_pos h0,hm];rfl
  have M:=zvi _ _ _ hm
  rw [he]
  obtain ⟨hl1,hl2⟩:=hc
  obtain ⟨a1,a2,a3⟩:=ledgerB_iff.1 hl1
  obtain ⟨b1,b2,b3,b4⟩:=postingB_iff.1 hl2
  obtain ⟨s1,s2,s3⟩:=linesB_iff.1 a3
  obtain ⟨t1,t2,t3⟩:=linesB_iff.1 b4
  refine ⟨hl1,hl2,by omega,M,by omega,by unfold postZ;rw [if_pos h0],ledgerB_iff.2 ⟨by omega,by omega,linesB_iff.2 ⟨M.ok s1 t1,M.sorted s2 t2,by rw [M.sum,s3,t3];rfl⟩⟩⟩
def pAll : List (Int × List Line) → Int → List Line → Int → Int × List Line × Int
 | [],z,l,n => (z,l,n)
 | p :: ps,z,l,n => if postCode z l p.1 p.2 = 0 then pAll ps (postZ z l p.1 p.2) (postL z l p.1 p.2) (n + 1) else pAll ps z l n
theorem zpk : ∀ (ps : List (Int × List Line)) (z : Int) (l : List Line) (n : Int),n ≤ (pAll ps z l n).2.2∧(pAll ps z l n).2.2 ≤ n + ps.length
 | [],z,l,n => by simp [pAll]
 | p :: ps,z,l,n => by
  rw [pAll]
  split
  ·
   have:=zpk ps (postZ z l p.1 p.2) (postL z l p.1 p.2) (n + 1)
   simp only [List.length_cons]
   omega
  have:=zpk ps z l n
  simp only [List.length_cons]
  omega
/-! ### The past of an account -/
def pastL (k c : Int) : List Line → Int → List Int → Option (Int × List Int)
 | [],s,o => some (s,o)
 | x :: l,s,o => if x.Kind = k∧x.Ch = c then (if rangeB (s + x.Amt) = true then pastL k c l (s + x.Amt) (o ++ [s + x.Amt]) else none) else pastL k c l s o
def pastP (k c : Int) : List (Int × List Line) → Int → List Int → Option (List Int)
 | [],_,o => some o
 | p :: ps,s,o => if postingB p.1 p.2 = true then (match pastL k c p.2 s o with | none => none | some x => pastP k c ps x.1 x.2) else none
def past (ps : List (Int × List Line)) (k c : Int) : List Int:=if accB k c = true then (pastP k c ps 0 []).getD [] else []
theorem zpw {k c : Int} {l : List Line} (h : linesB l = true) : rangeB (bal k c l) = true:=by
 obtain ⟨h1,h2,h3⟩:=linesB_iff.1 h
 rw [← zpa h2]
 clear h h2 h3
 induction l with
 | nil => exact (by decide : rangeB 0 = true)
 | cons x l ih =>
  rw [findB]
  split
  ·
   have:=h1 x (by simp)
   unfold lineOk at this
   rw [Bool.and_eq_true] at this
   exact this.2
  exact ih fun y hy => h1 y (by simp [hy])
def balB (z : Int) (l : List Line) (k c : Int) : Int:=if ledgerB z l = true∧accB k c = true then findB k c l else 0
theorem zvf : ledgerB 0 [] = true:=by decide
end Go.Proofs.YtdbmkfmenfcbiaaGreat
namespace Go.Proofs.YtdbmkfmenfcbiaaGreat
open Go.ChangeShapes Go.WideShapes Go.ChangeAt Go.RowKit Go.Joins Go.Deep
structure Pst where
 Id : Int
 A : Option Addr
 cap : Nat
 L : List Line
instance : Inhabited Pst:=⟨⟨0,none,0,[]⟩⟩
def Pst.cells (p : Pst) : List Value:=[.int .i64 p.Id,.slice p.A p.L.length p.cap]
def Pst.pl (p : Pst) : Int × List Line:=(p.Id,p.L)
def Pst.val (p : Pst) : Value:=.slice p.A p.L.length p.cap
theorem Pst.uni (l : List Pst) : ∀ r ∈ l.map Pst.cells,r.length = 2:=by
 intro r hr
 obtain ⟨d,_,rfl⟩:=List.mem_map.1 hr
 rfl
def RdP (w : World) (B : Nat) (A : Option Addr) (ps : List Pst) : Prop:=Rd w B 2 A (ps.map Pst.cells)∧∀ p ∈ ps,Rd w B 3 p.A (p.L.map Line.cells)
section
variable {w w' : World} {B B' : Nat} {A : Option Addr} {ps : List Pst}
theorem RdP.below (h : RdP w B A ps) (hb : Below B w w') : RdP w' B A ps:=⟨h.1.below hb,fun p hp => (h.2 p hp).below hb⟩
theorem RdP.more (h : RdP w B A ps) (hB : B ≤ B') : RdP w B' A ps:=⟨h.1.more hB,fun p hp => (h.2 p hp).more hB⟩
theorem RdP.keep (h : RdP w B A ps) (hk : ∀ p : Addr,p.block < B → w'.cell? p = w.cell? p) : RdP w' B A ps:=⟨h.1.keep hk,fun p hp => (h.2 p hp).keep hk⟩
theorem RdP.at_ (h : RdP w B A ps) {k : Nat} (hk : k < ps.length) :
  ∃ b off,A = some ⟨b,off,none⟩∧b < B∧w.cell? ⟨b,off + k * 2,none⟩ = some (.int .i64 ps[k].Id)∧w.cell? ⟨b,off + k * 2 + 1,none⟩ = some (.slice ps[k].A ps[k].L.length ps[k].cap):=by
 obtain ⟨b,off,e,hb,hc⟩:=h.1.2 (by rw [List.length_map];omega)
 have hk' : (ps.map Pst.cells)[k]? = some ps[k].cells:=by rw [List.getElem?_map,List.getElem?_eq_getElem hk];rfl
 exact ⟨b,off,e,hb,hc k _ 0 _ hk' rfl,hc k _ 1 _ hk' rfl⟩
theorem RdP.lines (h : RdP w B A ps) {k : Nat} (hk : k < ps.length) : Rd w B 3 ps[k].A (ps[k].L.map Line.cells):=h.2 _ (List.getElem_mem hk)
theorem RdP.nil_ : RdP w B A []:=⟨Rd.nil_,by simp⟩
end
def OwL (w : World) (B : Nat) (ps : List Pst) : Prop :=
 (∀ p ∈ ps,Ow w B 99 3 p.val (p.L.map Line.cells))∧ps.Pairwise fun p q => ∀ i j,p.val.ownBlock = some i → q.val.ownBlock = some j → i < j
def OwP (w : World) (B : Nat) (A : Option Addr) (cap : Nat) (ps : List Pst) : Prop:=Ow w B 66 2 (.slice A ps.length cap) (ps.map Pst.cells)∧OwL w B ps
section
variable {w w' : World} {B B' : Nat} {A : Option Addr} {cap : Nat} {ps : List Pst}
theorem OwL.below (h : OwL w B ps) (hb : Below w.heap.size w w') : OwL w' B ps:=⟨fun p hp => (h.1 p hp).below hb,h.2⟩
theorem OwL.more (h : OwL w B ps) (hB : B' ≤ B) : OwL w B' ps:=⟨fun p hp => (h.1 p hp).more hB,h.2⟩
theorem OwL.nil_ : OwL w B []:=⟨by simp,.nil⟩
theorem OwL.far (h : OwL w B ps) {a : Addr} (ha : a.block < B) (u : Value) : OwL (w.setCell a u) B ps:=⟨fun p hp => (h.1 p hp).far ha u,h.2⟩
theorem OwL.alloc (h : OwL w B ps) (o : Obj) : OwL (w.alloc o) B ps:=⟨fun p hp => (h.1 p hp).alloc o,h.2⟩
theorem OwP.below (h : OwP w B A cap ps) (hb : Below w.heap.size w w') : OwP w' B A cap ps:=⟨h.1.below hb,h.2.below hb⟩
theorem OwP.more (h : OwP w B A cap ps) (hB : B' ≤ B) : OwP w B' A cap ps:=⟨h.1.more hB,h.2.more hB⟩
theorem OwP.rd (h : OwP w B A cap ps) : RdP w w.heap.size A ps:=⟨h.1.rd,fun p hp => (h.2.1 p hp).rd⟩
theorem OwP.nil_ : OwP w B none 0 []:=⟨Ow.nil_,OwL.nil_⟩
theorem OwL.lt (h : OwL w B ps) {p : Pst} (hp : p ∈ ps) {i : Nat} (hi : p.val.ownBlock = some i) : B ≤ i∧i < w.heap.size:=(h.1 p hp).block i hi
theorem OwL.push {q : Pst} (h : OwL w B ps) (hb : Below w.heap.size w w') (hq : Ow w' w.heap.size 99 3 q.val (q.L.map Line.cells)) (hB : B ≤ w.heap.size) : OwL w' B (ps ++ [q]):=by
 refine ⟨fun p hp => ?_,?_⟩
 ·
  rcases List.mem_append.1 hp with hp | hp
  ·
   exact (h.1 p hp).below hb
  rw [List.mem_singleton.1 hp]
  exact hq.more hB
 rw [List.pairwise_append]
 refine ⟨h.2,.cons (by simp) .nil,fun p hp r hr i j hi hj => ?_⟩
 rw [List.mem_singleton.1 hr] at hj
 have h1:=h.lt hp hi
 have h2:=hq.block j hj
 omega
end
structure Inside (w w' : World) (B C : Nat) : Prop where
 os : w'.os = w.os
 tape : w'.tape = w.tape
 output : w'.output = w.output
 size : w.heap.size ≤ w'.heap.size
 block : ∀ k,k < w.heap.size → (k < B ∨ C ≤ k) → w'.heap[k]? = w.heap[k]?
section
variable {w w' w'' : World} {B C : Nat}
theorem Inside.refl (w : World) (B C : Nat) : Inside w w B C:=⟨rfl,rfl,rfl,Nat.le_refl _,fun _ _ _ => rfl⟩
theorem Inside.trans (h : Inside w w' B C) (k : Inside w' w'' B C) : Inside w w'' B C :=
 ⟨k.os.trans h.os,k.tape.trans h.tape,k.output.trans h.output,Nat.le_trans h.size k.size,fun i hi ho => (k.block i (Nat.lt_of_lt_of_le hi h.size) ho).trans (h.block i hi ho)⟩
theorem Inside.of_grown {r : Option Nat} (h : w.grownBy w' r) (hr : ∀ k,r = some k → B ≤ k∧k < C) : Inside w w' B C :=
 ⟨h.os,h.tape,h.output,h.size,fun i hi ho => h.block i hi (fun e => by have:=hr i e.symm;omega)⟩
theorem Inside.below (h : Inside w w' B C) {a : World} {D : Nat} (hb : Below D a w) (hD : D ≤ B) (hDs : D ≤ a.heap.size) : Below D a w' :=
 ⟨h.os.trans hb.os,h.tape.trans hb.tape,h.output.trans hb.output,Nat.le_trans hb.size h.size,fun k hk => (h.block k (by have:=hb.size;omega) (.inl (by omega))).trans (hb.block k hk)⟩
end
/-! ### Postings that come in -/
end Go.Proofs.YtdbmkfmenfcbiaaGreat
namespace Go.Proofs.YtdbmkfmenfcbiaaGreat
open Go.RowKit

def negWL (x : Line) : Line:=⟨x.Kind,x.Ch,wrap64 (-x.Amt)⟩
def mixed (k : Nat) (l : List Line) : List Line:=(l.take k).map negWL ++ l.drop k
theorem line_one (l : List Line) : ∀ u ∈ (l.map Line.cells).flatten,u.oneCell' = true:=by
  intro u hu
  obtain ⟨r,hr,hu⟩:=List.mem_flatten.1 hu
  obtain ⟨x,_,rfl⟩:=List.mem_map.1 hr
  simp only [Line.cells,List.mem_cons,List.not_mem_nil,or_false] at hu
  rcases hu with rfl | rfl | rfl <;> rfl
theorem info_LineR : (Tryz.prog.info? 99).map (fun i => (i.zero,i.size,i.bytes)) = some (some (.agg #[.int .i64 0,.int .i64 0,.int .i64 0]),3,24):=by kernel_rfl
set_option maxHeartbeats 1000000 in
theorem i_copyLines (l : List Line) (A : Option Addr) (cap : Nat) (w : World) (hl : l.length ≤ 1048576) (hr : Rd w w.heap.size 3 A (l.map Line.cells)) :
    Calls Tryz.prog 98 #[.slice A l.length cap] w fun e w' => ∃ A' cap',e = .returned (.slice A' l.length cap')∧Ow w' w.heap.size 99 3 (.slice A' l.length cap') (l.map Line.cells)∧Below w.heap.size w w':=by
  obtain ⟨i0,hi,hz0,hz1,hz2⟩:=info_parts info_LineR
  have hlen : (l.map Line.cells).length = l.length:=List.length_map ..
  have HI:=hd_ hi
  have HZ0:=hd_ hz0
  have HZ1:=hd_ hz1
  have HZ2:=hd_ hz2
  have HR:=hd_ hr
  have HL:=hd_ hlen
  clear hi hz0 hz1 hz2 hr hlen
  go_enter Tryz.func98,Tryz.ntmps98
  go_wp2_with (at_builtin;refine zhw rfl _ _ _ rfl 99 i0 _ 3 24 Tryz.underlying45 HI HZ0 HZ1 HZ2 rfl (by decide) (by decide) A cap (l.map Line.cells) rfl (by rw [HL.out];rfl) HR (line_one l) (by rw [HL.out];omega) ?_;intro A' cap' w1 how hb1;rw [HL.out] at how;rw [HL.out];have HO:=hd_ how;clear how)
  go_ret
  exact ⟨_,_,rfl,HO.out,hb1⟩

theorem htlcB_i (cs : List Chan) (h : Htlc) : htlcB cs h = (amtB h.AmtIn && !decide (h.AmtOut < 1) && !decide (h.AmtIn < h.AmtOut) && amtB h.Age && twoB cs h.In h.Out):=by
 rw [Bool.eq_iff_iff]
 simp only [htlcB,Bool.and_eq_true,zja,zjj,Bool.not_eq_true',decide_eq_false_iff_not]
 constructor
 ·
  rintro ⟨⟨⟨h1,h2⟩,h3⟩,h4⟩;exact ⟨⟨⟨⟨h2,by omega⟩,by omega⟩,h4⟩,h1⟩
 rintro ⟨⟨⟨⟨h2,h3⟩,h5⟩,h4⟩,h1⟩;exact ⟨⟨⟨h1,h2⟩,by omega⟩,h4⟩
theorem htlcB_s (cs : List Chan) (h : Htlc) : htlcB cs h = (twoB cs h.In h.Out && amtB h.AmtIn && amtB h.AmtOut && !decide (h.AmtOut < 1) && !decide (h.AmtIn < h.AmtOut) && amtB h.Age):=by
 rw [Bool.eq_iff_iff]
 simp only [htlcB,Bool.and_eq_true,zja,zjj,Bool.not_eq_true',decide_eq_false_iff_not]
 constructor
 ·
  rintro ⟨⟨⟨h1,h2⟩,h3⟩,h4⟩;exact ⟨⟨⟨⟨⟨h1,h2⟩,by omega⟩,by omega⟩,by omega⟩,h4⟩
 rintro ⟨⟨⟨⟨⟨h1,h2⟩,h3⟩,h5⟩,h6⟩,h4⟩;exact ⟨⟨⟨h1,h2⟩,by omega⟩,h4⟩
theorem circB_i (cs : List Chan) (c : Circle) : circB cs c = (amtB c.Amt && !decide (c.Amt < 1) && amtB c.Fee && twoB cs c.From c.To):=by
 rw [Bool.eq_iff_iff]
 simp only [circB,Bool.and_eq_true,zja,zjj,Bool.not_eq_true',decide_eq_false_iff_not]
 constructor
 ·
  rintro ⟨⟨h1,h2⟩,h3⟩;exact ⟨⟨⟨by omega,by omega⟩,h3⟩,h1⟩
 rintro ⟨⟨⟨h2,h4⟩,h3⟩,h1⟩;exact ⟨⟨h1,by omega⟩,h3⟩
theorem circB_s (cs : List Chan) (c : Circle) : circB cs c = (twoB cs c.From c.To && amtB c.Amt && !decide (c.Amt < 1) && amtB c.Fee):=by
 rw [circB_i]
 cases twoB cs c.From c.To <;> simp
theorem keyAt_s {ks : List Int} {i : Nat} (h : i < ks.length) : keyAt ks i = (!decide (ks[i] < 1) && !decide (1000000 < ks[i]) && !hasB (ks.take i) ks[i]):=by
 rw [zpg h]
 congr 1
 rw [Bool.eq_iff_iff]
 simp only [zjj,Bool.and_eq_true,Bool.not_eq_true',decide_eq_false_iff_not]
 omega
def partsOkB (cs : List Chan) (hs : List Htlc) (os : List Circle) : Bool:=decide (hs.length ≤ 60) && decide (os.length ≤ 20) && partsB cs hs os
theorem zxx {cs : List Chan} {hs : List Htlc} {os : List Circle} (h60 : hs.length ≤ 60) (h20 : os.length ≤ 20) : partsOkB cs hs os = partsB cs hs os:=by simp [partsOkB,h60,h20]
set_option maxRecDepth 100000 in
set_option maxHeartbeats 8000000 in
theorem zgu (bt bn bw : Int) (cs : List Chan) (hs : List Htlc) (os : List Circle) (A1 A2 A3 : Option Addr) (p1 p2 p3 : Nat) (w : World) (hc : cs.length ≤ 20) (h60 : hs.length ≤ 60) (h20 : os.length ≤ 20) (hr : RdBook w w.heap.size A1 cs A2 hs A3 os) :
  Calls Tryz.prog 83 #[.agg #[.int .i64 bt,.int .i64 bn,.int .i64 bw,.slice A1 cs.length p1,.slice A2 hs.length p2,.slice A3 os.length p3]] w fun e w' => e = .returned (.bool (partsOkB cs hs os))∧Below w.heap.size w w':=by
 have HR:=hd_ hr
 have HH:=hd_ hr.h
 have HO:=hd_ hr.o
 clear hr
 obtain ⟨i0,hi,hz0,hz1,hz2⟩:=info_parts info_int
 have HI:=hd_ hi
 have HZ0:=hd_ hz0
 have HZ1:=hd_ hz1
 have HZ2:=hd_ hz2
 clear hi hz0 hz1 hz2
 go_enter Tryz.func83,Tryz.ntmps83
 go_wp2_with fail
 go_loopw [4,25] (fun vk i wr => ∃ (k : Nat) (B : Option Addr) (cp : Nat),k ≤ hs.length∧i = .int .i64 k∧vk = .slice B ([] ++ (hs.take k).map Htlc.Key).length cp∧Ow wr (w.heap.size + 1) 3 1 (.slice B ([] ++ (hs.take k).map Htlc.Key).length cp) (([] ++ (hs.take k).map Htlc.Key).map intCells)∧Hid ((hs.take k).all (htlcB cs) = true)∧wr.heap[w.heap.size]? = some (.cells #[.int .i64 bt,.int .i64 bn,.int .i64 bw,.slice A1 cs.length p1,.slice A2 hs.length p2,.slice A3 os.length p3] 39 (0,0))∧Below w.heap.size w wr) (fun _ i _ => hs.length - (intOf i).toNat)
 case atStart => exact ⟨0,none,0,Nat.zero_le _,rfl,rfl,Ow.nil_,hd_ rfl,zqi rfl,bl_⟩
 case round =>
  obtain ⟨k,B,cp,hk,rfl,rfl,how,HA,hbox,hbw⟩:=hrel
  have hbz:=hbw.size
  obtain ⟨eh,e0,e1,e2,e3,e4,e5,ef,ezz⟩:=own6 (Below.refl wr.heap.size wr) (gz_ hbox).1 hbox
  have EH:=hd_ eh
  clear eh hbox
  have hrl : ([] ++ (hs.take k).map Htlc.Key).length ≤ 80:=by rw [zhd _ _ _ hk];simp;omega
  have NE:=hd_ (how.ne_ EH.out (by decide))
  have OB:=hd_ how.block
  have HW:=hd_ how
  clear how
  by_cases hlt : k < hs.length
  ·
   obtain ⟨b,off,rfl,hbB,c0,c1,c2,c3,c4,c5,c6⟩:=Htlc.rd (HH.out.below hbw) hlt
   have HK:=hd_ (zwd [] hs Htlc.Key hlt)
   obtain ⟨ROWS,hROWS⟩ : ∃ R,([] ++ (hs.take k).map Htlc.Key) = R:=⟨_,rfl⟩
   rw [hROWS] at hrl NE OB HW HK ⊢
   clear hROWS
   have hat:=htlcB_i cs hs[k]
   cases ha : amtB hs[k].AmtIn
   ·
    skip
    have HBAD:=hd_ (show htlcB cs hs[k] = false by rw [hat];simp [ha])
    clear hat
    go_wp2_with (go_at_call 50;refine (zqo _ _).mono ?_;rintro e w' ⟨rfl,rfl⟩)
    go_ret
    exact ⟨zqf (by rw [zxx h60 h20];exact (zjw hlt HBAD.out).symm),bl_⟩
   skip
   cases hb : decide (hs[k].AmtOut < 1)
   rotate_left
   ·
    skip
    have HBAD:=hd_ (show htlcB cs hs[k] = false by rw [hat];simp [ha,hb])
    clear hat
    go_wp2_with (go_at_call 50;refine (zqo _ _).mono ?_;rintro e w' ⟨rfl,rfl⟩)
    go_ret
    exact ⟨zqf (by rw [zxx h60 h20];exact (zjw hlt HBAD.out).symm),bl_⟩
   skip
   cases hd : decide (hs[k].AmtIn < hs[k].AmtOut)
   rotate_left
   ·
    skip
    have HBAD:=hd_ (show htlcB cs hs[k] = false by rw [hat];simp [ha,hb,hd])
    clear hat
    go_wp2_with (go_at_call 50;refine (zqo _ _).mono ?_;rintro e w' ⟨rfl,rfl⟩)
    go_ret
    exact ⟨zqf (by rw [zxx h60 h20];exact (zjw hlt HBAD.out).symm),bl_⟩
   skip
   cases he : amtB hs[k].Age
   ·
    skip
    have HBAD:=hd_ (show htlcB cs hs[k] = false by rw [hat];simp [ha,hb,hd,he])
    clear hat
    go_wp2_with (go_at_call 50;refine (zqo _ _).mono ?_;rintro e w' ⟨rfl,rfl⟩)
    go_ret
    exact ⟨zqf (by rw [zxx h60 h20];exact (zjw hlt HBAD.out).symm),bl_⟩
   skip
   cases ht : twoB cs hs[k].In hs[k].Out
   ·
    have HT:=hd_ ht
    clear ht
    have HBAD:=hd_ (show htlcB cs hs[k] = false by rw [hat];simp [ha,hb,hd,he,HT.out])
    clear hat
    go_wp2_with (go_at_call 50;refine (zqo _ _).mono ?_;rintro e w' ⟨rfl,rfl⟩)
    refine (zpc bt bn bw cs hs os _ _ _ _ _ _ hs[k].In hs[k].Out _ w.heap.size (zqd ezz EH.out) (by omega) ((HR.out.below (bl_)).more (by first | omega | (simp;omega) | (simp;done)))).mono ?_
    rintro e w5 ⟨rfl,hb5⟩
    have z5:=hb5.size
    try simp at z5
    rw [HT.out]
    go_wp2_with fail
    go_ret
    exact ⟨zqf (by rw [zxx h60 h20];exact (zjw hlt HBAD.out).symm),bl_⟩
   have HT:=hd_ ht
   clear ht
   have HGOOD:=hd_ (show htlcB cs hs[k] = true by rw [hat];simp [ha,hb,hd,he,HT.out])
   clear hat
   go_wp2_with (go_at_call 50;refine (zqo _ _).mono ?_;rintro e w' ⟨rfl,rfl⟩)
   refine (zpc bt bn bw cs hs os _ _ _ _ _ _ hs[k].In hs[k].Out _ w.heap.size (zqd ezz EH.out) (by omega) ((HR.out.below (bl_)).more (by first | omega | (simp;omega) | (simp;done)))).mono ?_
   rintro e w5 ⟨rfl,hb5⟩
   have z5:=hb5.size
   try simp at z5
   rw [HT.out]
   obtain ⟨lh,l0,l1,l2,l3,l4,l5,l6,lf,lz⟩:=own7 (g:=wr.heap.size) hb5 (by first | omega | (simp;omega) | (simp;done)) (hp_)
   obtain ⟨rh,r0,r1,r2,r3,r4,r5,rf,rz⟩:=own6 hb5 (by first | omega | (simp;omega) | (simp;done)) (zqd ezz EH.out)
   have RH:=hd_ rh
   have hbw5 : Below w.heap.size w w5:=bl_
   have hbz5:=hbw5.size
   have HW5:=hd_ ((HW.out.alloc _).below hb5)
   have KE:=hd_ (fun o2 (w6 : World) (hgr : (w5.alloc o2).grownBy w6 (Value.slice B ROWS.length cp).ownBlock) => ownG6 hgr NE.out (zqd rz RH.out))
   have KB:=hd_ (fun o2 (w6 : World) (hgr : (w5.alloc o2).grownBy w6 (Value.slice B ROWS.length cp).ownBlock) => (hbw5.alloc hbz5 o2).grown hgr (by simp;omega) (fun k e => by have:=(OB.out k e).1;omega))
   clear rh lh hb5
   go_wp2_with (at_builtin;refine zqz rfl _ _ _ rfl (w.heap.size + 1) 3 i0 _ 1 8 Tryz.underlying41 HI HZ0 HZ1 HZ2 rfl (by decide) (.slice B ROWS.length cp) (ROWS.map intCells) rfl (HW5.out.alloc _) w5.heap.size 1 [.int .i64 hs[k].Key] 3 rfl (zqi (by first | rfl | (simp;done))) rfl (by simp [Value.oneCell']) (by rw [List.length_map];omega) (by decide) (by first | omega | (simp;omega) | (simp;done)) ?_;intro g cap' w6 how6 hgr6 hat6 hlt6;rw [List.length_map] at how6;rw [List.length_map];obtain ⟨xh,x0,x1,x2,x3,x4,x5,xf,xz⟩:=KE.out _ _ hgr6;have hb6:=KB.out _ _ hgr6;have XH:=hd_ xh;have O6:=hd_ how6;clear xh how6 hgr6 hat6)
   go_roundw
   case rel =>
    refine ⟨k + 1,some ⟨g,0,none⟩,cap',by omega,by go_num,by rw [HK.out,List.length_append];rfl,?_,hd_ (by rw [zxr hs _ hlt,HA.out,HGOOD.out];rfl),XH.out,hb6⟩
    rw [HK.out,List.map_append,List.length_append]
    exact O6.out
   case measure => simp [intOf];omega
  obtain rfl : k = hs.length:=by omega
  have ha:=HA.out
  rw [List.take_length] at ha
  have HALL1:=hd_ ha
  clear ha HA
  rw [List.take_length,List.nil_append] at HW hrl ⊢
  rw [List.length_map] at hrl
  go_wp2_with fail
  obtain ⟨wo,rfl⟩ : ∃ wo : World,wo = wr:=⟨_,rfl⟩
  go_loopw [4,69] (fun vk i wr => ∃ (k : Nat) (B : Option Addr) (cp : Nat),k ≤ os.length∧i = .int .i64 k∧vk = .slice B ((hs.map Htlc.Key) ++ (os.take k).map Circle.Key).length cp∧Ow wr (w.heap.size + 1) 3 1 (.slice B ((hs.map Htlc.Key) ++ (os.take k).map Circle.Key).length cp) (((hs.map Htlc.Key) ++ (os.take k).map Circle.Key).map intCells)∧Hid ((os.take k).all (circB cs) = true)∧wr.heap[w.heap.size]? = some (.cells #[.int .i64 bt,.int .i64 bn,.int .i64 bw,.slice A1 cs.length p1,.slice A2 hs.length p2,.slice A3 os.length p3] 39 (0,0))∧Below w.heap.size w wr) (fun _ i _ => os.length - (intOf i).toNat)
  case atStart => exact ⟨0,B,cp,Nat.zero_le _,rfl,by simp,by simpa using HW.out,hd_ rfl,EH.out,hbw⟩
  case round =>
   obtain ⟨k,B,cp,hk,rfl,rfl,how,HA,hbox,hbw⟩:=hrel
   have hbz:=hbw.size
   obtain ⟨eh,e0,e1,e2,e3,e4,e5,ef,ezz⟩:=own6 (Below.refl wr.heap.size wr) (gz_ hbox).1 hbox
   have EH:=hd_ eh
   clear eh hbox
   have hrl : ((hs.map Htlc.Key) ++ (os.take k).map Circle.Key).length ≤ 80:=by rw [zhd _ _ _ hk];rw [List.length_map];omega
   have NE:=hd_ (how.ne_ EH.out (by decide))
   have OB:=hd_ how.block
   have HW:=hd_ how
   clear how
   by_cases hlt : k < os.length
   ·
    obtain ⟨b,off,rfl,hbB,c0,c1,c2,c3,c4⟩:=Circle.rd (HO.out.below hbw) hlt
    have HK:=hd_ (zwd (hs.map Htlc.Key) os Circle.Key hlt)
    obtain ⟨ROWS,hROWS⟩ : ∃ R,((hs.map Htlc.Key) ++ (os.take k).map Circle.Key) = R:=⟨_,rfl⟩
    rw [hROWS] at hrl NE OB HW HK ⊢
    clear hROWS
    have hat:=circB_i cs os[k]
    cases ha : amtB os[k].Amt
    ·
     skip
     have HBAD:=hd_ (show circB cs os[k] = false by rw [hat];simp [ha])
     clear hat
     go_wp2_with (go_at_call 50;refine (zqo _ _).mono ?_;rintro e w' ⟨rfl,rfl⟩)
     go_ret
     exact ⟨zqf (by rw [zxx h60 h20];exact (zku hlt HBAD.out).symm),bl_⟩
    skip
    cases hb : decide (os[k].Amt < 1)
    rotate_left
    ·
     skip
     have HBAD:=hd_ (show circB cs os[k] = false by rw [hat];simp [ha,hb])
     clear hat
     go_wp2_with (go_at_call 50;refine (zqo _ _).mono ?_;rintro e w' ⟨rfl,rfl⟩)
     go_ret
     exact ⟨zqf (by rw [zxx h60 h20];exact (zku hlt HBAD.out).symm),bl_⟩
    skip
    cases he : amtB os[k].Fee
    ·
     skip
     have HBAD:=hd_ (show circB cs os[k] = false by rw [hat];simp [ha,hb,he])
     clear hat
     go_wp2_with (go_at_call 50;refine (zqo _ _).mono ?_;rintro e w' ⟨rfl,rfl⟩)
     go_ret
     exact ⟨zqf (by rw [zxx h60 h20];exact (zku hlt HBAD.out).symm),bl_⟩
    skip
    cases ht : twoB cs os[k].From os[k].To
    ·
     have HT:=hd_ ht
     clear ht
     have HBAD:=hd_ (show circB cs os[k] = false by rw [hat];simp [ha,hb,he,HT.out])
     clear hat
     go_wp2_with (go_at_call 50;refine (zqo _ _).mono ?_;rintro e w' ⟨rfl,rfl⟩)
     refine (zpc bt bn bw cs hs os _ _ _ _ _ _ os[k].From os[k].To _ w.heap.size (zqd ezz EH.out) (by omega) ((HR.out.below (bl_)).more (by first | omega | (simp;omega) | (simp;done)))).mono ?_
     rintro e w5 ⟨rfl,hb5⟩
     have z5:=hb5.size
     try simp at z5
     rw [HT.out]
     go_wp2_with fail
     go_ret
     exact ⟨zqf (by rw [zxx h60 h20];exact (zku hlt HBAD.out).symm),bl_⟩
    have HT:=hd_ ht
    clear ht
    have HGOOD:=hd_ (show circB cs os[k] = true by rw [hat];simp [ha,hb,he,HT.out])
    clear hat
    go_wp2_with (go_at_call 50;refine (zqo _ _).mono ?_;rintro e w' ⟨rfl,rfl⟩)
    refine (zpc bt bn bw cs hs os _ _ _ _ _ _ os[k].From os[k].To _ w.heap.size (zqd ezz EH.out) (by omega) ((HR.out.below (bl_)).more (by first | omega | (simp;omega) | (simp;done)))).mono ?_
    rintro e w5 ⟨rfl,hb5⟩
    have z5:=hb5.size
    try simp at z5
    rw [HT.out]
    obtain ⟨lh,l0,l1,l2,l3,l4,lf,lz⟩:=own5 (g:=wr.heap.size) hb5 (by first | omega | (simp;omega) | (simp;done)) (hp_)
    obtain ⟨rh,r0,r1,r2,r3,r4,r5,rf,rz⟩:=own6 hb5 (by first | omega | (simp;omega) | (simp;done)) (zqd ezz EH.out)
    have RH:=hd_ rh
    have hbw5 : Below w.heap.size w w5:=bl_
    have hbz5:=hbw5.size
    have HW5:=hd_ ((HW.out.alloc _).below hb5)
    have KE:=hd_ (fun o2 (w6 : World) (hgr : (w5.alloc o2).grownBy w6 (Value.slice B ROWS.length cp).ownBlock) => ownG6 hgr NE.out (zqd rz RH.out))
    have KB:=hd_ (fun o2 (w6 : World) (hgr : (w5.alloc o2).grownBy w6 (Value.slice B ROWS.length cp).ownBlock) => (hbw5.alloc hbz5 o2).grown hgr (by simp;omega) (fun k e => by have:=(OB.out k e).1;omega))
    clear rh lh hb5
    go_wp2_with (at_builtin;refine zqz rfl _ _ _ rfl (w.heap.size + 1) 3 i0 _ 1 8 Tryz.underlying41 HI HZ0 HZ1 HZ2 rfl (by decide) (.slice B ROWS.length cp) (ROWS.map intCells) rfl (HW5.out.alloc _) w5.heap.size 1 [.int .i64 os[k].Key] 3 rfl (zqi (by first | rfl | (simp;done))) rfl (by simp [Value.oneCell']) (by rw [List.length_map];omega) (by decide) (by first | omega | (simp;omega) | (simp;done)) ?_;intro g cap' w6 how6 hgr6 hat6 hlt6;rw [List.length_map] at how6;rw [List.length_map];obtain ⟨xh,x0,x1,x2,x3,x4,x5,xf,xz⟩:=KE.out _ _ hgr6;have hb6:=KB.out _ _ hgr6;have XH:=hd_ xh;have O6:=hd_ how6;clear xh how6 hgr6 hat6)
    go_roundw
    case rel =>
     refine ⟨k + 1,some ⟨g,0,none⟩,cap',by omega,by go_num,by rw [HK.out,List.length_append];rfl,?_,hd_ (by rw [zxr os _ hlt,HA.out,HGOOD.out];rfl),XH.out,hb6⟩
     rw [HK.out,List.map_append,List.length_append]
     exact O6.out
    case measure => simp [intOf];omega
   obtain rfl : k = os.length:=by omega
   have ha:=HA.out
   rw [List.take_length] at ha
   have HALL2:=hd_ ha
   clear ha HA
   have hkeys : (hs.map Htlc.Key) ++ (os.take os.length).map Circle.Key = keysOf hs os:=by rw [List.take_length];rfl
   rw [hkeys] at HW ⊢
   clear hkeys NE OB hrl
   go_wp2_with fail
   obtain ⟨wo,rfl⟩ : ∃ wo : World,wo = wr:=⟨_,rfl⟩
   obtain ⟨KS,hKS⟩ : ∃ KS,keysOf hs os = KS:=⟨_,rfl⟩
   rw [hKS] at HW ⊢
   have hkl : KS.length ≤ 80:=by rw [← hKS];unfold keysOf;simp;omega
   have HKS:=hd_ hKS
   clear hKS
   have hcp : KS.length ≤ cp:=by
    obtain ⟨_,cp2,hv2,_,hc2,_⟩:=HW.out.form
    injection hv2 with _ _ hcc
    rw [hcc]
    rwa [List.length_map] at hc2
   have hcm : cp ≤ maxLen:=by
    obtain ⟨_,cp2,hv2,_,_,hm2⟩:=HW.out.form
    injection hv2 with _ _ hcc
    rwa [hcc]
   unfold maxLen at hcm
   have HRK:=hd_ HW.out.rd
   go_loopw [105] (fun i wr' => ∃ k : Nat,k ≤ KS.length∧i = .int .i64 k∧Hid (everyTo k (keyAt KS) = true)∧wr' = wo) (fun i _ => KS.length - (intOf i).toNat)
   case atStart => exact ⟨0,Nat.zero_le _,rfl,hd_ rfl,rfl⟩
   case round =>
    obtain ⟨k,hk,rfl,HEV,rfl⟩:=hrel
    by_cases hlt : k < KS.length
    rotate_left
    ·
     obtain rfl : k = KS.length:=by omega
     go_wp2_with fail
     go_ret
     exact ⟨zqf (by rw [zxx h60 h20];unfold partsB;rw [HALL1.out,HALL2.out,HKS.out,HEV.out];rfl),bl_⟩
    obtain ⟨b,off,rfl,hbB,c0⟩:=zpf HRK hlt
    have i1 : (0 : Int) ≤ (k : Int):=by omega
    have i2 : (k : Int) < (KS.length : Int):=by omega
    have i3 : (k : Int) ≤ (cp : Int):=by omega
    have HAS:=fun W => i_hasInt (KS.take k) KS[k] (some ⟨b,off,none⟩) cp W (by rw [List.length_take];omega)
    simp only [List.length_take,Nat.min_eq_left (Nat.le_of_lt hlt),List.map_take] at HAS
    have HHAS:=hd_ HAS
    clear HAS
    have hat:=zpg hlt
    cases hq : inB KS[k] 1 1000000
    ·
     skip
     have HBAD:=hd_ (show keyAt KS k = false by rw [hat];simp [hq])
     clear hat
     go_wp2_with (go_at_call 140;refine (zxl _ _).mono ?_;rintro e w' ⟨rfl,rfl⟩)
     go_ret
     exact ⟨zqf (by rw [zxx h60 h20];exact (zhf (by rw [HKS.out];exact hlt) (by rw [HKS.out];exact HBAD)).symm),bl_⟩
    skip
    cases hh : hasB (KS.take k) KS[k]
    ·
     have HH2:=hd_ hh
     clear hh
     have HGOOD:=hd_ (show keyAt KS k = true by rw [hat];simp [hq,HH2.out])
     clear hat
     go_wp2_with (go_at_call 140;refine (zxl _ _).mono ?_;rintro e w' ⟨rfl,rfl⟩)
     refine (HHAS.out _ (HRK.out.take k)).mono ?_
     rintro e w7 ⟨rfl,rfl⟩
     rw [HH2.out]
     go_wp2_with fail
     go_roundw
     case rel => exact ⟨k + 1,by omega,by go_num,hd_ (by rw [zjs,HEV.out,HGOOD.out];rfl),trivial⟩
     case measure => simp [intOf];omega
    have HH2:=hd_ hh
    clear hh
    have HBAD:=hd_ (show keyAt KS k = false by rw [hat];simp [hq,HH2.out])
    clear hat
    go_wp2_with (go_at_call 140;refine (zxl _ _).mono ?_;rintro e w' ⟨rfl,rfl⟩)
    refine (HHAS.out _ (HRK.out.take k)).mono ?_
    rintro e w7 ⟨rfl,rfl⟩
    rw [HH2.out]
    go_wp2_with fail
    go_ret
    exact ⟨zqf (by rw [zxx h60 h20];exact (zhf (by rw [HKS.out];exact hlt) (by rw [HKS.out];exact HBAD)).symm),bl_⟩
theorem zgt (bt bn bw : Int) (cs : List Chan) (hs : List Htlc) (os : List Circle) (A1 A2 A3 : Option Addr) (p1 p2 p3 : Nat) (w : World) (hc : cs.length ≤ 20) (hh : hs.length ≤ 1048576) (ho : os.length ≤ 1048576) (hr : RdBook w w.heap.size A1 cs A2 hs A3 os) :
  Calls Tryz.prog 83 #[.agg #[.int .i64 bt,.int .i64 bn,.int .i64 bw,.slice A1 cs.length p1,.slice A2 hs.length p2,.slice A3 os.length p3]] w fun e w' => e = .returned (.bool (partsOkB cs hs os))∧Below w.heap.size w w':=by
 by_cases h60 : hs.length ≤ 60
 ·
  by_cases h20 : os.length ≤ 20
  ·
   exact zgu bt bn bw cs hs os A1 A2 A3 p1 p2 p3 w hc h60 h20 hr
  clear hr
  have h1 : decide ((60 : Int) < (hs.length : Int)) = false:=decide_eq_false (by omega)
  have h2 : decide ((20 : Int) < (os.length : Int)) = true:=decide_eq_true (by omega)
  have HE:=hd_ (show partsOkB cs hs os = false by simp [partsOkB,h20])
  go_enter Tryz.func83,Tryz.ntmps83
  go_wp2_with fail
  go_ret
  exact ⟨zqf HE.out.symm,bl_⟩
 clear hr
 have h1 : decide ((60 : Int) < (hs.length : Int)) = true:=decide_eq_true (by omega)
 have HE:=hd_ (show partsOkB cs hs os = false by simp [partsOkB,h60])
 go_enter Tryz.func83,Tryz.ntmps83
 go_wp2_with fail
 go_ret
 exact ⟨zqf HE.out.symm,bl_⟩
theorem info_LineL : (Tryz.prog.info? 99).map (fun i => (i.zero,i.size,i.bytes)) = some (some (.agg #[.int .i64 0,.int .i64 0,.int .i64 0]),3,24):=by kernel_rfl
theorem zxj {a b : Nat} (h : a ≠ b) : some a ≠ some b:=fun e => h (Option.some.inj e)
theorem zxp {a w : World} {r : Option Nat} (h : a.grownBy w r) (o : Obj) : a.grownBy (w.alloc o) r:=zqt h (zwi ((Below.refl _ _).alloc (Nat.le_refl _) o))
theorem zqn {a w : World} {r : Option Nat} {b : Nat} (h : a.grownBy w r) (hb : a.heap.size ≤ b) (i : Nat) (u : Value) : a.grownBy (w.setCell ⟨b,i,none⟩ u) r :=
 ⟨h.os,h.tape,h.output,by simpa [World.setCell] using h.size,fun k hk hne => (Below.heap_setCell w ⟨b,i,none⟩ u k (fun e => by simp only at e;omega)).trans (h.block k hk hne)⟩
theorem Ow.pastL {w w' : World} {B g : Nat} {e : TypeId} {n : Nat} {v : Value} {rows : List (List Value)} (h : Ow w B e n v rows) (hg : w.grownBy w' (some g)) (hB : g < B) : Ow w' B e n v rows :=
 h.grown hg (by
  cases hv : v.ownBlock with
  | none => exact .inl rfl
  | some k => exact .inr (zxj (by have:=(h.block k hv).1;omega)))
def addX (y x : Line) : Line:=⟨y.Kind,y.Ch,wrap64 (y.Amt + x.Amt)⟩
def addF (x : Line) : List Line → List Line
 | [] => [x]
 | y :: l => if lessB y.Kind y.Ch x.Kind x.Ch = true then y :: addF x l else if y.Kind = x.Kind∧y.Ch = x.Ch then (if wrap64 (y.Amt + x.Amt) = 0 then l else addX y x :: l) else x :: y :: l
theorem addF_len (x : Line) : ∀ l : List Line,(addF x l).length ≤ l.length + 1
 | [] => Nat.le_refl _
 | y :: l => by
  have:=addF_len x l
  rw [addF]
  split
  ·
   simp only [List.length_cons];omega
  split
  ·
   split
   ·
    simp only [List.length_cons];omega
   simp only [List.length_cons];omega
  simp only [List.length_cons];omega
set_option maxRecDepth 100000 in
set_option maxHeartbeats 4000000 in
theorem s_l02Add (l : List Line) (A : Option Addr) (cap : Nat) (xk xc xa : Int) (w : World) (hl : l.length ≤ 1048576) (hr : Rd w w.heap.size 3 A (l.map Line.cells)) :
  Calls Tryz.prog 109 #[.slice A l.length cap,.agg #[.int .i64 xk,.int .i64 xc,.int .i64 xa]] w fun e w' => ∃ A' cap',e = .returned (.slice A' (addF ⟨xk,xc,xa⟩ l).length cap')∧Ow w' w.heap.size 99 3 (.slice A' (addF ⟨xk,xc,xa⟩ l).length cap') ((addF ⟨xk,xc,xa⟩ l).map Line.cells)∧Below w.heap.size w w':=by
 have HR:=hd_ hr
 clear hr
 obtain ⟨i0,hi,hz0,hz1,hz2⟩:=info_parts info_LineL
 have HI:=hd_ hi
 have HZ0:=hd_ hz0
 have HZ1:=hd_ hz1
 have HZ2:=hd_ hz2
 clear hi hz0 hz1 hz2
 have HE0:=hd_ (Ow.empty_ (w:=w.alloc (.cells #[.int .i64 xk,.int .i64 xc,.int .i64 xa] 99)) (g:=w.heap.size + 1) (e:=99) (size:=3) (B:=w.heap.size + 1) (by simp) (Nat.le_refl _))
 have XH0:=hd_ (show ((w.alloc (.cells #[.int .i64 xk,.int .i64 xc,.int .i64 xa] 99)).alloc (.cells #[] 99)).heap[w.heap.size]? = some (.cells #[.int .i64 xk,.int .i64 xc,.int .i64 xa] 99 (0,0)) from zqd (by simp) (zqi rfl))
 go_enter Tryz.func109,Tryz.ntmps109
 go_wp2_with fail
 go_loopw [5,6,12] (fun vo vd i wr => ∃ (k : Nat) (d : Bool) (o : List Line) (B : Option Addr) (cp : Nat),k ≤ l.length∧i = .int .i64 k∧vd = .bool d∧vo = .slice B o.length cp∧((d = false → o.length ≤ k)∧o.length ≤ k + 1)∧Hid (addF ⟨xk,xc,xa⟩ l = o ++ (if d = true then l.drop k else addF ⟨xk,xc,xa⟩ (l.drop k)))∧Ow wr (w.heap.size + 1) 99 3 (.slice B o.length cp) (o.map Line.cells)∧wr.heap[w.heap.size]? = some (.cells #[.int .i64 xk,.int .i64 xc,.int .i64 xa] 99 (0,0))∧Below w.heap.size w wr) (fun _ _ i _ => l.length - (intOf i).toNat)
 case atStart => exact ⟨0,false,[],some ⟨w.heap.size + 1,0,none⟩,0,Nat.zero_le _,rfl,rfl,rfl,⟨fun _ => Nat.zero_le _,Nat.zero_le _⟩,hd_ rfl,HE0.out,XH0.out,bl_⟩
 case round =>
  obtain ⟨k,d,o,B,cp,hk,rfl,rfl,rfl,⟨hol0,hol⟩,HE,how,hxh,hbw⟩:=hrel
  have hbz:=hbw.size
  have hxz:=(gz_ hxh).1
  obtain ⟨_,e0,e1,e2,ef,_⟩:=own3 (Below.refl wr.heap.size wr) hxz hxh
  have XH:=hd_ hxh
  have OB:=hd_ how.block
  have HW:=hd_ how
  clear how hxh
  by_cases hlt : k < l.length
  rotate_left
  ·
   clear hol0
   obtain rfl : k = l.length:=by omega
   cases d
   ·
    have HE2:=hd_ (show addF ⟨xk,xc,xa⟩ l = o ++ [⟨xk,xc,xa⟩] by rw [HE.out,if_neg (by simp),List.drop_length];rfl)
    have KB:=hd_ (fun o1 (w6 : World) (hgr : (wr.alloc o1).grownBy w6 (Value.slice B o.length cp).ownBlock) => (hbw.alloc (Nat.le_trans (Nat.le_refl _) hbz) o1).grown hgr (by simp;omega) (fun k e => by have:=(OB.out k e).1;omega))
    go_wp2_with (at_builtin;refine zqz rfl _ _ _ rfl (w.heap.size + 1) 99 i0 _ 3 24 Tryz.underlying45 HI HZ0 HZ1 HZ2 rfl (by decide) (.slice B o.length cp) (o.map Line.cells) rfl (HW.out.alloc _) (wr.heap.size) 1 [.int .i64 xk,.int .i64 xc,.int .i64 xa] 99 rfl (zqi (by first | rfl | (simp;done))) rfl (by simp [Value.oneCell']) (by rw [List.length_map];first | omega | (simp;omega)) (by decide) (by first | omega | (simp;omega) | (simp;done)) ?_;intro g6 cap6 w6 how6 hgr6 hat6 hlt6;rw [List.length_map] at how6;rw [List.length_map];have hb6:=KB.out _ _ hgr6;have O6:=hd_ how6;clear how6 hgr6 hat6)
    go_ret
    have ho:=O6.out.more (B':=w.heap.size) (by omega)
    refine ⟨some ⟨g6,0,none⟩,cap6,by rw [HE2.out,List.length_append];rfl,?_,hb6⟩
    rw [HE2.out,List.map_append,List.length_append]
    exact ho
   have HE2:=hd_ (show addF ⟨xk,xc,xa⟩ l = o by rw [HE.out,if_pos rfl,List.drop_length,List.append_nil])
   go_wp2_with fail
   go_ret
   exact ⟨B,cp,by rw [HE2.out];rfl,by rw [HE2.out];exact HW.out.more (by omega),hbw⟩
  obtain ⟨b,off,rfl,hbB,c0,c1,c2⟩:=Line.rd (HR.out.below hbw) hlt
  have hdr:=List.drop_eq_getElem_cons hlt
  obtain ⟨yk,hyk⟩ : ∃ v,l[k].Kind = v:=⟨_,rfl⟩
  obtain ⟨yc,hyc⟩ : ∃ v,l[k].Ch = v:=⟨_,rfl⟩
  obtain ⟨ya,hya⟩ : ∃ v,l[k].Amt = v:=⟨_,rfl⟩
  have hlk : l[k] = ⟨yk,yc,ya⟩:=by rw [← hyk,← hyc,← hya]
  rw [hyk] at c0
  rw [hyc] at c1
  rw [hya] at c2
  rw [hlk] at hdr
  have HDR:=hd_ hdr
  clear hyk hyc hya hlk hdr
  cases d
  rotate_left
  ·
   clear hol0
   have HE2:=hd_ (show addF ⟨xk,xc,xa⟩ l = (o ++ [⟨yk,yc,ya⟩]) ++ (if true = true then l.drop (k + 1) else addF ⟨xk,xc,xa⟩ (l.drop (k + 1))) by rw [HE.out,HDR.out];simp)
   have NX : some w.heap.size ≠ (Value.slice B o.length cp).ownBlock:=fun e => by have:=(OB.out _ e.symm).1;omega
   have KX:=hd_ (fun o1 o2 (w6 : World) (hgr : ((wr.alloc o1).alloc o2).grownBy w6 (Value.slice B o.length cp).ownBlock) => zqe hgr NX (zqd (by simp;omega) (zqd hxz XH.out)))
   have KB:=hd_ (fun o1 o2 (w6 : World) (hgr : ((wr.alloc o1).alloc o2).grownBy w6 (Value.slice B o.length cp).ownBlock) => ((hbw.alloc (Nat.le_trans (Nat.le_refl _) hbz) o1).alloc (by simp;omega) o2).grown hgr (by simp;omega) (fun k e => by have:=(OB.out k e).1;omega))
   clear NX
   go_wp2_with (at_builtin;refine zqz rfl _ _ _ rfl (w.heap.size + 1) 99 i0 _ 3 24 Tryz.underlying45 HI HZ0 HZ1 HZ2 rfl (by decide) (.slice B o.length cp) (o.map Line.cells) rfl ((HW.out.alloc _).alloc _) (wr.heap.size + 1) 1 [.int .i64 yk,.int .i64 yc,.int .i64 ya] 99 rfl (zqi (by first | rfl | (simp;done))) rfl (by simp [Value.oneCell']) (by rw [List.length_map];first | omega | (simp;omega)) (by decide) (by first | omega | (simp;omega) | (simp;done)) ?_;intro g6 cap6 w6 how6 hgr6 hat6 hlt6;rw [List.length_map] at how6;rw [List.length_map];have XH6:=hd_ (KX.out _ _ _ hgr6);have hb6:=KB.out _ _ _ hgr6;have O6:=hd_ how6;clear how6 hgr6 hat6)
   go_roundw
   case rel =>
    refine ⟨k + 1,true,o ++ [⟨yk,yc,ya⟩],some ⟨g6,0,none⟩,cap6,by omega,by go_num,rfl,by rw [List.length_append];rfl,⟨(fun h => by cases h),by rw [List.length_append,List.length_singleton];omega⟩,hd_ HE2.out,?_,XH6.out,hb6⟩
    rw [List.map_append,List.length_append]
    exact O6.out
   case measure => simp [intOf];omega
  have hol1:=hol0 rfl
  clear hol0
  obtain ⟨bl,hbl⟩ : ∃ bl,lessB yk yc xk xc = bl:=⟨_,rfl⟩
  have HBL:=hd_ hbl
  have HEA:=hd_ (fun W => eq_acc W yk yc xk xc)
  have HNA:=hd_ (fun W => neq_acc W yk yc xk xc)
  clear hbl
  go_wp2_with fail
  refine (s_l02Less yk yc xk xc _).mono ?_
  rintro e w2 ⟨rfl,hb2⟩
  have z2:=hb2.size
  try simp at z2
  rw [HBL.out]
  have yh2 : w2.heap[wr.heap.size]? = some (.cells #[.int .i64 yk,.int .i64 yc,.int .i64 ya] 99 (0,0)):=zqr hb2 (by simp) (zqi rfl)
  have xh2:=zqr hb2 (by simp;omega) (zqd hxz XH.out)
  have HW2:=hd_ ((HW.out.alloc (.cells #[.int .i64 yk,.int .i64 yc,.int .i64 ya] 99)).below hb2)
  have hbw2 : Below w.heap.size w w2:=bl_
  have hbz2:=hbw2.size
  clear hb2 e0 e1 e2 ef c0 c1 c2 HW XH
  obtain ⟨_,e0,e1,e2,ef,hxz2⟩:=own3 (Below.refl w2.heap.size w2) (gz_ xh2).1 xh2
  obtain ⟨_,c0,c1,c2,cf,hyz2⟩:=own3 (Below.refl w2.heap.size w2) (gz_ yh2).1 yh2
  have XH2:=hd_ xh2
  have YH2:=hd_ yh2
  obtain ⟨Y,hY⟩ : ∃ Y,wr.heap.size = Y:=⟨_,rfl⟩
  have hYw : w.heap.size + 1 ≤ Y:=by omega
  have NX : some w.heap.size ≠ (Value.slice B o.length cp).ownBlock:=fun e => by have:=(OB.out _ e.symm).1;omega
  have NY : some Y ≠ (Value.slice B o.length cp).ownBlock:=fun e => by have:=(OB.out _ e.symm).2;omega
  rw [hY] at c0 c1 c2 cf YH2 hyz2 ⊢
  have KX:=hd_ (fun o1 (w6 : World) (hgr : (w2.alloc o1).grownBy w6 (Value.slice B o.length cp).ownBlock) => zqe hgr NX (zqd hxz2 XH2.out))
  have KY:=hd_ (fun o1 (w6 : World) (hgr : (w2.alloc o1).grownBy w6 (Value.slice B o.length cp).ownBlock) => zqe hgr NY (zqd hyz2 YH2.out))
  have KB:=hd_ (fun o1 (w6 : World) (hgr : (w2.alloc o1).grownBy w6 (Value.slice B o.length cp).ownBlock) => (hbw2.alloc (Nat.le_trans (Nat.le_refl _) hbz2) o1).grown hgr (by simp;omega) (fun k e => by have:=(OB.out k e).1;omega))
  clear NX NY xh2 yh2 z2 hY
  cases bl
  rotate_left
  ·
   have HE2:=hd_ (show addF ⟨xk,xc,xa⟩ l = (o ++ [⟨yk,yc,ya⟩]) ++ (if false = true then l.drop (k + 1) else addF ⟨xk,xc,xa⟩ (l.drop (k + 1))) by
    rw [HE.out,if_neg (by simp),HDR.out,addF,if_pos (by simp only;exact HBL),if_neg (by simp)];simp)
   go_wp2_with (at_builtin;refine zqz rfl _ _ _ rfl (w.heap.size + 1) 99 i0 _ 3 24 Tryz.underlying45 HI HZ0 HZ1 HZ2 rfl (by decide) (.slice B o.length cp) (o.map Line.cells) rfl (HW2.out.alloc _) (w2.heap.size) 1 [.int .i64 yk,.int .i64 yc,.int .i64 ya] 99 rfl (zqi (by first | rfl | (simp;done))) rfl (by simp [Value.oneCell']) (by rw [List.length_map];first | omega | (simp;omega)) (by decide) (by first | omega | (simp;omega) | (simp;done)) ?_;intro g6 cap6 w6 how6 hgr6 hat6 hlt6;rw [List.length_map] at how6;rw [List.length_map];have XH6:=hd_ (KX.out _ _ hgr6);have hb6:=KB.out _ _ hgr6;have O6:=hd_ how6;clear how6 hgr6 hat6)
   go_roundw
   case rel =>
    refine ⟨k + 1,false,o ++ [⟨yk,yc,ya⟩],some ⟨g6,0,none⟩,cap6,by omega,by go_num,rfl,by rw [List.length_append];rfl,⟨(fun _ => by rw [List.length_append,List.length_singleton];omega),by rw [List.length_append,List.length_singleton];omega⟩,hd_ HE2.out,?_,XH6.out,hb6⟩
    rw [List.map_append,List.length_append]
    exact O6.out
   case measure => simp [intOf];omega
  by_cases he : yk = xk∧yc = xc
  ·
   have hq1 : ∀ W,(binOp .neq 55 (.agg #[.int .i64 yk,.int .i64 yc]) (.agg #[.int .i64 xk,.int .i64 xc])).run Tryz.prog W = .ok (.bool false) W:=fun W => by rw [HNA.out W,zmq he];rfl
   have hq2 : ∀ W,(binOp .eql 55 (.agg #[.int .i64 yk,.int .i64 yc]) (.agg #[.int .i64 xk,.int .i64 xc])).run Tryz.prog W = .ok (.bool true) W:=fun W => by rw [HEA.out W,zmq he]
   obtain ⟨S,hS⟩ : ∃ S,wrap64 (ya + xa) = S:=⟨_,rfl⟩
   have hS' : IntKind.i64.wrap (ya + xa) = S:=by rw [IntKind.wrap_i64,← hS];unfold wrap64;omega
   have HS:=hd_ hS
   by_cases hs0 : S = 0
   ·
    have ts : (S == 0) = true:=by rw [hs0];rfl
    have HE2:=hd_ (show addF ⟨xk,xc,xa⟩ l = o ++ (if true = true then l.drop (k + 1) else addF ⟨xk,xc,xa⟩ (l.drop (k + 1))) by
     rw [HE.out,if_neg (by simp),HDR.out,addF,if_neg (by simp only;rw [HBL.out];simp),if_pos he,if_pos (by simp only;rw [HS.out,hs0]),if_pos rfl])
    clear he hs0
    go_wp2_with fail
    go_roundw
    case rel => exact ⟨k + 1,true,o,B,cp,by omega,by go_num,rfl,rfl,⟨(fun h => by cases h),by omega⟩,hd_ HE2.out,HW2.out,XH2.out,hbw2⟩
    case measure => simp [intOf];omega
   have ts : (S == 0) = false:=by simpa using hs0
   have HE2:=hd_ (show addF ⟨xk,xc,xa⟩ l = (o ++ [⟨yk,yc,S⟩]) ++ (if true = true then l.drop (k + 1) else addF ⟨xk,xc,xa⟩ (l.drop (k + 1))) by
    rw [HE.out,if_neg (by simp),HDR.out,addF,if_neg (by simp only;rw [HBL.out];simp),if_pos he,if_neg (by simp only;rw [HS.out];exact hs0),if_pos rfl,addX];simp only;rw [HS.out];simp)
   clear he hs0
   go_wp2_with (at_builtin;refine zqz rfl _ _ _ rfl (w.heap.size + 1) 99 i0 _ 3 24 Tryz.underlying45 HI HZ0 HZ1 HZ2 rfl (by decide) (.slice B o.length cp) (o.map Line.cells) rfl (HW2.out.alloc _) (w2.heap.size) 1 [.int .i64 yk,.int .i64 yc,.int .i64 S] 99 rfl (zqi (by first | rfl | (simp;done))) rfl (by simp [Value.oneCell']) (by rw [List.length_map];first | omega | (simp;omega)) (by decide) (by first | omega | (simp;omega) | (simp;done)) ?_;intro g6 cap6 w6 how6 hgr6 hat6 hlt6;rw [List.length_map] at how6;rw [List.length_map];have xh6:=KX.out _ _ hgr6;have yh6:=KY.out _ _ hgr6;have hb6:=KB.out _ _ hgr6;obtain ⟨_,s0,s1,s2,sf,sz⟩:=own3 (Below.refl w6.heap.size w6) (gz_ xh6).1 xh6;obtain ⟨_,t0,t1,t2,tf,tz⟩:=own3 (Below.refl w6.heap.size w6) (gz_ yh6).1 yh6;have XH6:=hd_ xh6;clear xh6 yh6;have O6:=hd_ how6;clear how6 hgr6 hat6)
   go_roundw
   case rel =>
    refine ⟨k + 1,true,o ++ [⟨yk,yc,S⟩],some ⟨g6,0,none⟩,cap6,by omega,by go_num,rfl,by rw [List.length_append];rfl,⟨(fun h => by cases h),by rw [List.length_append,List.length_singleton];omega⟩,hd_ HE2.out,?_,XH6.out,hb6⟩
    rw [List.map_append,List.length_append]
    exact O6.out
   case measure => simp [intOf];omega
  have hq1 : ∀ W,(binOp .neq 55 (.agg #[.int .i64 yk,.int .i64 yc]) (.agg #[.int .i64 xk,.int .i64 xc])).run Tryz.prog W = .ok (.bool true) W:=fun W => by rw [HNA.out W,zyd he];rfl
  have hq2 : ∀ W,(binOp .eql 55 (.agg #[.int .i64 yk,.int .i64 yc]) (.agg #[.int .i64 xk,.int .i64 xc])).run Tryz.prog W = .ok (.bool false) W:=fun W => by rw [HEA.out W,zyd he]
  have HE2:=hd_ (show addF ⟨xk,xc,xa⟩ l = ((o ++ [⟨xk,xc,xa⟩]) ++ [⟨yk,yc,ya⟩]) ++ (if true = true then l.drop (k + 1) else addF ⟨xk,xc,xa⟩ (l.drop (k + 1))) by
   rw [HE.out,if_neg (by simp),HDR.out,addF,if_neg (by simp only;rw [HBL.out];simp),if_neg he,if_pos rfl];simp)
  clear he
  go_wp2_with (first
   | (at_builtin;refine zqz rfl _ _ _ rfl (w.heap.size + 1) 99 i0 _ 3 24 Tryz.underlying45 HI HZ0 HZ1 HZ2 rfl (by decide) (.slice B o.length cp) (o.map Line.cells) rfl (HW2.out.alloc _) (w2.heap.size) 1 [.int .i64 xk,.int .i64 xc,.int .i64 xa] 99 rfl (zqi (by first | rfl | (simp;done))) rfl (by simp [Value.oneCell']) (by rw [List.length_map];first | omega | (simp;omega)) (by decide) (by first | omega | (simp;omega) | (simp;done)) ?_;intro g6 cap6 w6 how6 hgr6 hat6 hlt6;rw [List.length_map] at how6;rw [List.length_map];have xh6:=KX.out _ _ hgr6;have yh6:=KY.out _ _ hgr6;have hb6:=KB.out _ _ hgr6;have hb6z:=hb6.size;obtain ⟨_,s0,s1,s2,sf,sz⟩:=own3 (Below.refl w6.heap.size w6) (gz_ xh6).1 xh6;obtain ⟨_,t0,t1,t2,tf,tz⟩:=own3 (Below.refl w6.heap.size w6) (gz_ yh6).1 yh6;have XH6:=hd_ xh6;have OB6:=hd_ how6.block;have NX : some w.heap.size ≠ (Value.slice (some ⟨g6,0,none⟩) (o.length + 1) cap6).ownBlock:=(fun e => by have:=(OB6.out _ e.symm).1;omega);have KX7:=hd_ (fun o1 (w7 : World) (hgr : (w6.alloc o1).grownBy w7 (Value.slice (some ⟨g6,0,none⟩) (o.length + 1) cap6).ownBlock) => zqe hgr NX (zqd sz XH6.out));have KB7:=hd_ (fun o1 (w7 : World) (hgr : (w6.alloc o1).grownBy w7 (Value.slice (some ⟨g6,0,none⟩) (o.length + 1) cap6).ownBlock) => (hb6.alloc (Nat.le_trans (Nat.le_refl _) hb6z) o1).grown hgr (by simp;omega) (fun k e => by have:=(OB6.out k e).1;omega));clear NX xh6 yh6;have O6:=hd_ how6;clear how6 hgr6 hat6;have hO6:=O6.out;rw [show o.map Line.cells ++ [[.int .i64 xk,.int .i64 xc,.int .i64 xa]] = (o ++ [(⟨xk,xc,xa⟩ : Line)]).map Line.cells by rw [List.map_append];rfl,show o.length + 1 = (o ++ [(⟨xk,xc,xa⟩ : Line)]).length by rw [List.length_append];rfl] at hO6;have hol2 : (o ++ [(⟨xk,xc,xa⟩ : Line)]).length ≤ k + 1:=(by rw [List.length_append,List.length_singleton];omega);have O6':=hd_ hO6;rw [show o.length + 1 = (o ++ [(⟨xk,xc,xa⟩ : Line)]).length by rw [List.length_append];rfl] at KX7 KB7 ⊢;obtain ⟨o2,ho2⟩ : ∃ o2,o ++ [(⟨xk,xc,xa⟩ : Line)] = o2:=⟨_,rfl⟩;rw [ho2] at O6' hol2 HE2 KX7 KB7 ⊢;clear hO6 O6 ho2)
   | (at_builtin;refine zqz rfl _ _ _ rfl (w.heap.size + 1) 99 i0 _ 3 24 Tryz.underlying45 HI HZ0 HZ1 HZ2 rfl (by decide) (.slice (some ⟨g6,0,none⟩) o2.length cap6) (o2.map Line.cells) rfl (O6'.out.alloc _) (w6.heap.size) 1 [.int .i64 yk,.int .i64 yc,.int .i64 ya] 99 rfl (zqi (by first | rfl | (simp;done))) rfl (by simp [Value.oneCell']) (by rw [List.length_map];first | omega | (simp;omega)) (by decide) (by first | omega | (simp;omega) | (simp;done)) ?_;intro g7 cap7 w7 how7 hgr7 hat7 hlt7;rw [List.length_map] at how7;rw [List.length_map];have XH7:=hd_ (KX7.out _ _ hgr7);have hb7:=KB7.out _ _ hgr7;have O7:=hd_ how7;clear how7 hgr7 hat7))
  go_roundw
  case rel =>
   refine ⟨k + 1,true,o2 ++ [⟨yk,yc,ya⟩],some ⟨g7,0,none⟩,cap7,by omega,by go_num,rfl,by rw [List.length_append];rfl,⟨(fun h => by cases h),by rw [List.length_append,List.length_singleton];omega⟩,hd_ HE2.out,?_,XH7.out,hb7⟩
   rw [List.map_append,List.length_append]
   exact O7.out
  case measure => simp [intOf];omega
structure Event where
 Kind : Int
 Key : Int
 Ch : Int
 To : Int
 Amt : Int
 Fee : Int
 Yes : Bool
def Event.cells (d : Event) : List Value:=[.int .i64 d.Kind,.int .i64 d.Key,.int .i64 d.Ch,.int .i64 d.To,.int .i64 d.Amt,.int .i64 d.Fee,.bool d.Yes]
theorem Event.uni (l : List Event) : ∀ r ∈ l.map Event.cells,r.length = 7:=by
 intro r hr
 obtain ⟨d,_,rfl⟩:=List.mem_map.1 hr
 rfl
theorem Event.of_flat {cs : List Value} (h0 : flat [true,true,true,true,true,true,false] cs) : ∃ d : Event,cs = d.cells∧True:=by
 obtain ⟨a0,cs0,e0,h1⟩:=zxy h0
 obtain ⟨a1,cs1,e1,h2⟩:=zxy h1
 obtain ⟨a2,cs2,e2,h3⟩:=zxy h2
 obtain ⟨a3,cs3,e3,h4⟩:=zxy h3
 obtain ⟨a4,cs4,e4,h5⟩:=zxy h4
 obtain ⟨a5,cs5,e5,h6⟩:=zxy h5
 obtain ⟨a6,cs6,e6,h7⟩:=flat_b h6
 have e7:=zwb h7
 subst e0 e1 e2 e3 e4 e5 e6 e7
 exact ⟨⟨a0,a1,a2,a3,a4,a5,a6⟩,rfl,trivial⟩
theorem Event.rd {w : World} {B : Nat} {A : Option Addr} {l : List Event} (h : Rd w B 7 A (l.map Event.cells)) {k : Nat} (hk : k < l.length) :
  ∃ b off,A = some ⟨b,off,none⟩∧b < B∧w.cell? ⟨b,off + k * 7,none⟩ = some (.int .i64 l[k].Kind)∧w.cell? ⟨b,off + k * 7 + 1,none⟩ = some (.int .i64 l[k].Key)∧w.cell? ⟨b,off + k * 7 + 2,none⟩ = some (.int .i64 l[k].Ch)∧w.cell? ⟨b,off + k * 7 + 3,none⟩ = some (.int .i64 l[k].To)∧w.cell? ⟨b,off + k * 7 + 4,none⟩ = some (.int .i64 l[k].Amt)∧w.cell? ⟨b,off + k * 7 + 5,none⟩ = some (.int .i64 l[k].Fee)∧w.cell? ⟨b,off + k * 7 + 6,none⟩ = some (.bool l[k].Yes):=by
 obtain ⟨b,off,e,hb,hc⟩:=h.2 (by rw [List.length_map];omega)
 have hk' : (l.map Event.cells)[k]? = some l[k].cells:=by rw [List.getElem?_map,List.getElem?_eq_getElem hk];rfl
 exact ⟨b,off,e,hb,hc k _ 0 _ hk' rfl,hc k _ 1 _ hk' rfl,hc k _ 2 _ hk' rfl,hc k _ 3 _ hk' rfl,hc k _ 4 _ hk' rfl,hc k _ 5 _ hk' rfl,hc k _ 6 _ hk' rfl⟩
theorem Event.fl (l : List Event) {k : Nat} (hk : k < l.length) : (l.map Event.cells).flatten[k * 7]? = some (.int .i64 l[k].Kind)∧(l.map Event.cells).flatten[k * 7 + 1]? = some (.int .i64 l[k].Key)∧(l.map Event.cells).flatten[k * 7 + 2]? = some (.int .i64 l[k].Ch)∧(l.map Event.cells).flatten[k * 7 + 3]? = some (.int .i64 l[k].To)∧(l.map Event.cells).flatten[k * 7 + 4]? = some (.int .i64 l[k].Amt)∧(l.map Event.cells).flatten[k * 7 + 5]? = some (.int .i64 l[k].Fee)∧(l.map Event.cells).flatten[k * 7 + 6]? = some (.bool l[k].Yes):=by
 have hk' : (l.map Event.cells)[k]? = some l[k].cells:=by rw [List.getElem?_map,List.getElem?_eq_getElem hk];rfl
 exact ⟨zqw _ 7 (Event.uni l) k 0 _ hk' (by omega),zqw _ 7 (Event.uni l) k 1 _ hk' (by omega),zqw _ 7 (Event.uni l) k 2 _ hk' (by omega),zqw _ 7 (Event.uni l) k 3 _ hk' (by omega),zqw _ 7 (Event.uni l) k 4 _ hk' (by omega),zqw _ 7 (Event.uni l) k 5 _ hk' (by omega),zqw _ 7 (Event.uni l) k 6 _ hk' (by omega)⟩
abbrev evC (e : Event) : Array Value:=#[.int .i64 e.Kind,.int .i64 e.Key,.int .i64 e.Ch,.int .i64 e.To,.int .i64 e.Amt,.int .i64 e.Fee,.bool e.Yes]
abbrev kqE (w : World) (g : Nat) (e : Event) (R : Prop) : Prop:=w.cell? ⟨g,0,none⟩ = some (.int .i64 e.Kind)∧w.cell? ⟨g,1,none⟩ = some (.int .i64 e.Key)∧w.cell? ⟨g,2,none⟩ = some (.int .i64 e.Ch)∧w.cell? ⟨g,3,none⟩ = some (.int .i64 e.To)∧w.cell? ⟨g,4,none⟩ = some (.int .i64 e.Amt)∧w.cell? ⟨g,5,none⟩ = some (.int .i64 e.Fee)∧w.cell? ⟨g,6,none⟩ = some (.bool e.Yes)∧R
abbrev kqE_ (w : World) (g : Nat) (e : Event) : Prop:=w.cell? ⟨g,0,none⟩ = some (.int .i64 e.Kind)∧w.cell? ⟨g,1,none⟩ = some (.int .i64 e.Key)∧w.cell? ⟨g,2,none⟩ = some (.int .i64 e.Ch)∧w.cell? ⟨g,3,none⟩ = some (.int .i64 e.To)∧w.cell? ⟨g,4,none⟩ = some (.int .i64 e.Amt)∧w.cell? ⟨g,5,none⟩ = some (.int .i64 e.Fee)∧w.cell? ⟨g,6,none⟩ = some (.bool e.Yes)
set_option maxRecDepth 100000 in
set_option maxHeartbeats 8000000 in
theorem zmm (bt bn bw : Int) (cs : List Chan) (hs : List Htlc) (os : List Circle) (A1 A2 A3 : Option Addr) (p1 p2 p3 : Nat) (w : World) (hc : cs.length ≤ 20) (h60 : hs.length ≤ 60) (h20 : os.length ≤ 20) (hr : RdBook w w.heap.size A1 cs A2 hs A3 os) :
  Calls Tryz.prog 57 #[.agg #[.int .i64 bt,.int .i64 bn,.int .i64 bw,.slice A1 cs.length p1,.slice A2 hs.length p2,.slice A3 os.length p3]] w fun e w' => e = .returned (.bool (partsB cs hs os))∧Below w.heap.size w w':=by
 have HR:=hd_ hr
 have HH:=hd_ hr.h
 have HO:=hd_ hr.o
 clear hr
 go_enter Tryz.func57,Tryz.ntmps57
 go_wp2_with fail
 go_loopw [13] (fun i wr => ∃ k : Nat,k ≤ hs.length∧i = .int .i64 k∧Hid ((hs.take k).all (htlcB cs) = true)∧wr.heap[w.heap.size]? = some (.cells #[.int .i64 bt,.int .i64 bn,.int .i64 bw,.slice A1 cs.length p1,.slice A2 hs.length p2,.slice A3 os.length p3] 39 (0,0))∧Below w.heap.size w wr) (fun i _ => hs.length - (intOf i).toNat)
 case atStart => exact ⟨0,Nat.zero_le _,rfl,hd_ rfl,zqi rfl,bl_⟩
 case round =>
  obtain ⟨k,hk,rfl,HA,hbox,hbw⟩:=hrel
  have hbz:=hbw.size
  obtain ⟨eh,e0,e1,e2,e3,e4,e5,ef,ezz⟩:=own6 (Below.refl wr.heap.size wr) (gz_ hbox).1 hbox
  have EH:=hd_ eh
  clear eh hbox
  by_cases hlt : k < hs.length
  ·
   obtain ⟨b,off,rfl,hbB,c0,c1,c2,c3,c4,c5,c6⟩:=Htlc.rd (HH.out.below hbw) hlt
   have hat:=htlcB_s cs hs[k]
   cases ht : twoB cs hs[k].In hs[k].Out
   ·
    have HT:=hd_ ht
    clear ht
    have HBAD:=hd_ (show htlcB cs hs[k] = false by rw [hat];simp [HT.out])
    clear hat
    go_wp2_with fail
    refine (zjb bt bn bw cs hs os _ _ _ _ _ _ hs[k].In hs[k].Out _ (by omega) ((HR.out.below (bl_)).more (by first | omega | (simp;omega) | (simp;done)))).mono ?_
    rintro e w5 ⟨rfl,hb5⟩
    have z5:=hb5.size
    try simp at z5
    rw [HT.out]
    obtain ⟨lh,l0,l1,l2,l3,l4,l5,l6,lf,lz⟩:=own7 (g:=wr.heap.size) hb5 (by first | omega | (simp;omega) | (simp;done)) (hp_)
    obtain ⟨rh,r0,r1,r2,r3,r4,r5,rf,rz⟩:=own6 hb5 (by first | omega | (simp;omega) | (simp;done)) (zqd ezz EH.out)
    have RH:=hd_ rh
    have hbw5 : Below w.heap.size w w5:=bl_
    clear rh lh hb5
    go_wp2_with (go_at_call 56;refine (zqx _ _).mono ?_;rintro e w' ⟨rfl,rfl⟩)
    go_ret
    exact ⟨zqf (zjw hlt HBAD.out).symm,bl_⟩
   have HT:=hd_ ht
   clear ht
   cases ha : amtB hs[k].AmtIn
   ·
    skip
    have HBAD:=hd_ (show htlcB cs hs[k] = false by rw [hat];simp [HT.out,ha])
    clear hat
    go_wp2_with fail
    refine (zjb bt bn bw cs hs os _ _ _ _ _ _ hs[k].In hs[k].Out _ (by omega) ((HR.out.below (bl_)).more (by first | omega | (simp;omega) | (simp;done)))).mono ?_
    rintro e w5 ⟨rfl,hb5⟩
    have z5:=hb5.size
    try simp at z5
    rw [HT.out]
    obtain ⟨lh,l0,l1,l2,l3,l4,l5,l6,lf,lz⟩:=own7 (g:=wr.heap.size) hb5 (by first | omega | (simp;omega) | (simp;done)) (hp_)
    obtain ⟨rh,r0,r1,r2,r3,r4,r5,rf,rz⟩:=own6 hb5 (by first | omega | (simp;omega) | (simp;done)) (zqd ezz EH.out)
    have RH:=hd_ rh
    have hbw5 : Below w.heap.size w w5:=bl_
    clear rh lh hb5
    go_wp2_with (go_at_call 56;refine (zqx _ _).mono ?_;rintro e w' ⟨rfl,rfl⟩)
    go_ret
    exact ⟨zqf (zjw hlt HBAD.out).symm,bl_⟩
   skip
   cases hc2 : amtB hs[k].AmtOut
   ·
    skip
    have HBAD:=hd_ (show htlcB cs hs[k] = false by rw [hat];simp [HT.out,ha,hc2])
    clear hat
    go_wp2_with fail
    refine (zjb bt bn bw cs hs os _ _ _ _ _ _ hs[k].In hs[k].Out _ (by omega) ((HR.out.below (bl_)).more (by first | omega | (simp;omega) | (simp;done)))).mono ?_
    rintro e w5 ⟨rfl,hb5⟩
    have z5:=hb5.size
    try simp at z5
    rw [HT.out]
    obtain ⟨lh,l0,l1,l2,l3,l4,l5,l6,lf,lz⟩:=own7 (g:=wr.heap.size) hb5 (by first | omega | (simp;omega) | (simp;done)) (hp_)
    obtain ⟨rh,r0,r1,r2,r3,r4,r5,rf,rz⟩:=own6 hb5 (by first | omega | (simp;omega) | (simp;done)) (zqd ezz EH.out)
    have RH:=hd_ rh
    have hbw5 : Below w.heap.size w w5:=bl_
    clear rh lh hb5
    go_wp2_with (go_at_call 56;refine (zqx _ _).mono ?_;rintro e w' ⟨rfl,rfl⟩)
    go_ret
    exact ⟨zqf (zjw hlt HBAD.out).symm,bl_⟩
   skip
   cases hb : decide (hs[k].AmtOut < 1)
   rotate_left
   ·
    skip
    have HBAD:=hd_ (show htlcB cs hs[k] = false by rw [hat];simp [HT.out,ha,hc2,hb])
    clear hat
    go_wp2_with fail
    refine (zjb bt bn bw cs hs os _ _ _ _ _ _ hs[k].In hs[k].Out _ (by omega) ((HR.out.below (bl_)).more (by first | omega | (simp;omega) | (simp;done)))).mono ?_
    rintro e w5 ⟨rfl,hb5⟩
    have z5:=hb5.size
    try simp at z5
    rw [HT.out]
    obtain ⟨lh,l0,l1,l2,l3,l4,l5,l6,lf,lz⟩:=own7 (g:=wr.heap.size) hb5 (by first | omega | (simp;omega) | (simp;done)) (hp_)
    obtain ⟨rh,r0,r1,r2,r3,r4,r5,rf,rz⟩:=own6 hb5 (by first | omega | (simp;omega) | (simp;done)) (zqd ezz EH.out)
    have RH:=hd_ rh
    have hbw5 : Below w.heap.size w w5:=bl_
    clear rh lh hb5
    go_wp2_with (go_at_call 56;refine (zqx _ _).mono ?_;rintro e w' ⟨rfl,rfl⟩)
    go_ret
    exact ⟨zqf (zjw hlt HBAD.out).symm,bl_⟩
   skip
   cases hd : decide (hs[k].AmtIn < hs[k].AmtOut)
   rotate_left
   ·
    skip
    have HBAD:=hd_ (show htlcB cs hs[k] = false by rw [hat];simp [HT.out,ha,hc2,hb,hd])
    clear hat
    go_wp2_with fail
    refine (zjb bt bn bw cs hs os _ _ _ _ _ _ hs[k].In hs[k].Out _ (by omega) ((HR.out.below (bl_)).more (by first | omega | (simp;omega) | (simp;done)))).mono ?_
    rintro e w5 ⟨rfl,hb5⟩
    have z5:=hb5.size
    try simp at z5
    rw [HT.out]
    obtain ⟨lh,l0,l1,l2,l3,l4,l5,l6,lf,lz⟩:=own7 (g:=wr.heap.size) hb5 (by first | omega | (simp;omega) | (simp;done)) (hp_)
    obtain ⟨rh,r0,r1,r2,r3,r4,r5,rf,rz⟩:=own6 hb5 (by first | omega | (simp;omega) | (simp;done)) (zqd ezz EH.out)
    have RH:=hd_ rh
    have hbw5 : Below w.heap.size w w5:=bl_
    clear rh lh hb5
    go_wp2_with (go_at_call 56;refine (zqx _ _).mono ?_;rintro e w' ⟨rfl,rfl⟩)
    go_ret
    exact ⟨zqf (zjw hlt HBAD.out).symm,bl_⟩
   skip
   cases he : amtB hs[k].Age
   ·
    skip
    have HBAD:=hd_ (show htlcB cs hs[k] = false by rw [hat];simp [HT.out,ha,hc2,hb,hd,he])
    clear hat
    go_wp2_with fail
    refine (zjb bt bn bw cs hs os _ _ _ _ _ _ hs[k].In hs[k].Out _ (by omega) ((HR.out.below (bl_)).more (by first | omega | (simp;omega) | (simp;done)))).mono ?_
    rintro e w5 ⟨rfl,hb5⟩
    have z5:=hb5.size
    try simp at z5
    rw [HT.out]
    obtain ⟨lh,l0,l1,l2,l3,l4,l5,l6,lf,lz⟩:=own7 (g:=wr.heap.size) hb5 (by first | omega | (simp;omega) | (simp;done)) (hp_)
    obtain ⟨rh,r0,r1,r2,r3,r4,r5,rf,rz⟩:=own6 hb5 (by first | omega | (simp;omega) | (simp;done)) (zqd ezz EH.out)
    have RH:=hd_ rh
    have hbw5 : Below w.heap.size w w5:=bl_
    clear rh lh hb5
    go_wp2_with (go_at_call 56;refine (zqx _ _).mono ?_;rintro e w' ⟨rfl,rfl⟩)
    go_ret
    exact ⟨zqf (zjw hlt HBAD.out).symm,bl_⟩
   skip
   have HGOOD:=hd_ (show htlcB cs hs[k] = true by rw [hat];simp [HT.out,ha,hc2,hb,hd,he])
   clear hat
   go_wp2_with fail
   refine (zjb bt bn bw cs hs os _ _ _ _ _ _ hs[k].In hs[k].Out _ (by omega) ((HR.out.below (bl_)).more (by first | omega | (simp;omega) | (simp;done)))).mono ?_
   rintro e w5 ⟨rfl,hb5⟩
   have z5:=hb5.size
   try simp at z5
   rw [HT.out]
   obtain ⟨lh,l0,l1,l2,l3,l4,l5,l6,lf,lz⟩:=own7 (g:=wr.heap.size) hb5 (by first | omega | (simp;omega) | (simp;done)) (hp_)
   obtain ⟨rh,r0,r1,r2,r3,r4,r5,rf,rz⟩:=own6 hb5 (by first | omega | (simp;omega) | (simp;done)) (zqd ezz EH.out)
   have RH:=hd_ rh
   have hbw5 : Below w.heap.size w w5:=bl_
   clear rh lh hb5
   go_wp2_with (go_at_call 56;refine (zqx _ _).mono ?_;rintro e w' ⟨rfl,rfl⟩)
   go_roundw
   case rel => exact ⟨k + 1,by omega,by go_num,hd_ (by rw [zxr hs _ hlt,HA.out,HGOOD.out];rfl),RH.out,bl_⟩
   case measure => simp [intOf];omega
  obtain rfl : k = hs.length:=by omega
  have ha:=HA.out
  rw [List.take_length] at ha
  have HALL1:=hd_ ha
  clear ha HA
  go_wp2_with fail
  obtain ⟨wo,rfl⟩ : ∃ wo : World,wo = wr:=⟨_,rfl⟩
  go_loopw [58] (fun i wr => ∃ k : Nat,k ≤ os.length∧i = .int .i64 k∧Hid ((os.take k).all (circB cs) = true)∧wr.heap[w.heap.size]? = some (.cells #[.int .i64 bt,.int .i64 bn,.int .i64 bw,.slice A1 cs.length p1,.slice A2 hs.length p2,.slice A3 os.length p3] 39 (0,0))∧Below w.heap.size w wr) (fun i _ => os.length - (intOf i).toNat)
  case atStart => exact ⟨0,Nat.zero_le _,rfl,hd_ rfl,EH.out,bl_⟩
  case round =>
   obtain ⟨k,hk,rfl,HA,hbox,hbw⟩:=hrel
   have hbz:=hbw.size
   obtain ⟨eh,e0,e1,e2,e3,e4,e5,ef,ezz⟩:=own6 (Below.refl wr.heap.size wr) (gz_ hbox).1 hbox
   have EH:=hd_ eh
   clear eh hbox
   by_cases hlt : k < os.length
   ·
    obtain ⟨b,off,rfl,hbB,c0,c1,c2,c3,c4⟩:=Circle.rd (HO.out.below hbw) hlt
    have hat:=circB_s cs os[k]
    cases ht : twoB cs os[k].From os[k].To
    ·
     have HT:=hd_ ht
     clear ht
     have HBAD:=hd_ (show circB cs os[k] = false by rw [hat];simp [HT.out])
     clear hat
     go_wp2_with fail
     refine (zjb bt bn bw cs hs os _ _ _ _ _ _ os[k].From os[k].To _ (by omega) ((HR.out.below (bl_)).more (by first | omega | (simp;omega) | (simp;done)))).mono ?_
     rintro e w5 ⟨rfl,hb5⟩
     have z5:=hb5.size
     try simp at z5
     rw [HT.out]
     obtain ⟨lh,l0,l1,l2,l3,l4,lf,lz⟩:=own5 (g:=wr.heap.size) hb5 (by first | omega | (simp;omega) | (simp;done)) (hp_)
     obtain ⟨rh,r0,r1,r2,r3,r4,r5,rf,rz⟩:=own6 hb5 (by first | omega | (simp;omega) | (simp;done)) (zqd ezz EH.out)
     have RH:=hd_ rh
     have hbw5 : Below w.heap.size w w5:=bl_
     clear rh lh hb5
     go_wp2_with (go_at_call 56;refine (zqx _ _).mono ?_;rintro e w' ⟨rfl,rfl⟩)
     go_ret
     exact ⟨zqf (zku hlt HBAD.out).symm,bl_⟩
    have HT:=hd_ ht
    clear ht
    cases ha : amtB os[k].Amt
    ·
     skip
     have HBAD:=hd_ (show circB cs os[k] = false by rw [hat];simp [HT.out,ha])
     clear hat
     go_wp2_with fail
     refine (zjb bt bn bw cs hs os _ _ _ _ _ _ os[k].From os[k].To _ (by omega) ((HR.out.below (bl_)).more (by first | omega | (simp;omega) | (simp;done)))).mono ?_
     rintro e w5 ⟨rfl,hb5⟩
     have z5:=hb5.size
     try simp at z5
     rw [HT.out]
     obtain ⟨lh,l0,l1,l2,l3,l4,lf,lz⟩:=own5 (g:=wr.heap.size) hb5 (by first | omega | (simp;omega) | (simp;done)) (hp_)
     obtain ⟨rh,r0,r1,r2,r3,r4,r5,rf,rz⟩:=own6 hb5 (by first | omega | (simp;omega) | (simp;done)) (zqd ezz EH.out)
     have RH:=hd_ rh
     have hbw5 : Below w.heap.size w w5:=bl_
     clear rh lh hb5
     go_wp2_with (go_at_call 56;refine (zqx _ _).mono ?_;rintro e w' ⟨rfl,rfl⟩)
     go_ret
     exact ⟨zqf (zku hlt HBAD.out).symm,bl_⟩
    skip
    cases hb : decide (os[k].Amt < 1)
    rotate_left
    ·
     skip
     have HBAD:=hd_ (show circB cs os[k] = false by rw [hat];simp [HT.out,ha,hb])
     clear hat
     go_wp2_with fail
     refine (zjb bt bn bw cs hs os _ _ _ _ _ _ os[k].From os[k].To _ (by omega) ((HR.out.below (bl_)).more (by first | omega | (simp;omega) | (simp;done)))).mono ?_
     rintro e w5 ⟨rfl,hb5⟩
     have z5:=hb5.size
     try simp at z5
     rw [HT.out]
     obtain ⟨lh,l0,l1,l2,l3,l4,lf,lz⟩:=own5 (g:=wr.heap.size) hb5 (by first | omega | (simp;omega) | (simp;done)) (hp_)
     obtain ⟨rh,r0,r1,r2,r3,r4,r5,rf,rz⟩:=own6 hb5 (by first | omega | (simp;omega) | (simp;done)) (zqd ezz EH.out)
     have RH:=hd_ rh
     have hbw5 : Below w.heap.size w w5:=bl_
     clear rh lh hb5
     go_wp2_with (go_at_call 56;refine (zqx _ _).mono ?_;rintro e w' ⟨rfl,rfl⟩)
     go_ret
     exact ⟨zqf (zku hlt HBAD.out).symm,bl_⟩
    skip
    cases he : amtB os[k].Fee
    ·
     skip
     have HBAD:=hd_ (show circB cs os[k] = false by rw [hat];simp [HT.out,ha,hb,he])
     clear hat
     go_wp2_with fail
     refine (zjb bt bn bw cs hs os _ _ _ _ _ _ os[k].From os[k].To _ (by omega) ((HR.out.below (bl_)).more (by first | omega | (simp;omega) | (simp;done)))).mono ?_
     rintro e w5 ⟨rfl,hb5⟩
     have z5:=hb5.size
     try simp at z5
     rw [HT.out]
     obtain ⟨lh,l0,l1,l2,l3,l4,lf,lz⟩:=own5 (g:=wr.heap.size) hb5 (by first | omega | (simp;omega) | (simp;done)) (hp_)
     obtain ⟨rh,r0,r1,r2,r3,r4,r5,rf,rz⟩:=own6 hb5 (by first | omega | (simp;omega) | (simp;done)) (zqd ezz EH.out)
     have RH:=hd_ rh
     have hbw5 : Below w.heap.size w w5:=bl_
     clear rh lh hb5
     go_wp2_with (go_at_call 56;refine (zqx _ _).mono ?_;rintro e w' ⟨rfl,rfl⟩)
     go_ret
     exact ⟨zqf (zku hlt HBAD.out).symm,bl_⟩
    skip
    have HGOOD:=hd_ (show circB cs os[k] = true by rw [hat];simp [HT.out,ha,hb,he])
    clear hat
    go_wp2_with fail
    refine (zjb bt bn bw cs hs os _ _ _ _ _ _ os[k].From os[k].To _ (by omega) ((HR.out.below (bl_)).more (by first | omega | (simp;omega) | (simp;done)))).mono ?_
    rintro e w5 ⟨rfl,hb5⟩
    have z5:=hb5.size
    try simp at z5
    rw [HT.out]
    obtain ⟨lh,l0,l1,l2,l3,l4,lf,lz⟩:=own5 (g:=wr.heap.size) hb5 (by first | omega | (simp;omega) | (simp;done)) (hp_)
    obtain ⟨rh,r0,r1,r2,r3,r4,r5,rf,rz⟩:=own6 hb5 (by first | omega | (simp;omega) | (simp;done)) (zqd ezz EH.out)
    have RH:=hd_ rh
    have hbw5 : Below w.heap.size w w5:=bl_
    clear rh lh hb5
    go_wp2_with (go_at_call 56;refine (zqx _ _).mono ?_;rintro e w' ⟨rfl,rfl⟩)
    go_roundw
    case rel => exact ⟨k + 1,by omega,by go_num,hd_ (by rw [zxr os _ hlt,HA.out,HGOOD.out];rfl),RH.out,bl_⟩
    case measure => simp [intOf];omega
   obtain rfl : k = os.length:=by omega
   have ha:=HA.out
   rw [List.take_length] at ha
   have HALL2:=hd_ ha
   clear ha HA
   go_wp2_with fail
   refine (zte bt bn bw cs hs os _ _ _ _ _ _ _ h60 h20 ((HR.out.below (bl_)).more (by first | omega | (simp;omega) | (simp;done)))).mono ?_
   rintro e w8 ⟨B,cp,rfl,how8,hb8⟩
   have HW:=hd_ how8
   have hbw8 : Below w.heap.size w w8:=bl_
   clear how8
   go_wp2_with fail
   obtain ⟨wo,rfl⟩ : ∃ wo : World,wo = w8:=⟨_,rfl⟩
   obtain ⟨KS,hKS⟩ : ∃ KS,keysOf hs os = KS:=⟨_,rfl⟩
   rw [hKS] at HW ⊢
   have hkl : KS.length ≤ 80:=by rw [← hKS];unfold keysOf;simp;omega
   have HKS:=hd_ hKS
   clear hKS
   have hcp : KS.length ≤ cp:=by
    obtain ⟨_,cp2,hv2,_,hc2,_⟩:=HW.out.form
    injection hv2 with _ _ hcc
    rw [hcc]
    rwa [List.length_map] at hc2
   have hcm : cp ≤ maxLen:=by
    obtain ⟨_,cp2,hv2,_,_,hm2⟩:=HW.out.form
    injection hv2 with _ _ hcc
    rwa [hcc]
   unfold maxLen at hcm
   have HRK:=hd_ HW.out.rd
   go_loopw [91] (fun i wr' => ∃ k : Nat,k ≤ KS.length∧i = .int .i64 k∧Hid (everyTo k (keyAt KS) = true)∧wr' = wo) (fun i _ => KS.length - (intOf i).toNat)
   case atStart => exact ⟨0,Nat.zero_le _,rfl,hd_ rfl,rfl⟩
   case round =>
    obtain ⟨k,hk,rfl,HEV,rfl⟩:=hrel
    by_cases hlt : k < KS.length
    rotate_left
    ·
     obtain rfl : k = KS.length:=by omega
     go_wp2_with fail
     go_ret
     exact ⟨zqf (by unfold partsB;rw [HALL1.out,HALL2.out,HKS.out,HEV.out];rfl),bl_⟩
    obtain ⟨b,off,rfl,hbB,c0⟩:=zpf HRK hlt
    have i1 : (0 : Int) ≤ (k : Int):=by omega
    have i2 : (k : Int) < (KS.length : Int):=by omega
    have i3 : (k : Int) ≤ (cp : Int):=by omega
    have HAS:=fun W => zkr (KS.take k) KS[k] (some ⟨b,off,none⟩) cp W (by rw [List.length_take];omega)
    simp only [List.length_take,Nat.min_eq_left (Nat.le_of_lt hlt),List.map_take] at HAS
    have HHAS:=hd_ HAS
    clear HAS
    have hat:=keyAt_s hlt
    cases hq : decide (KS[k] < 1)
    rotate_left
    ·
     skip
     have HBAD:=hd_ (show keyAt KS k = false by rw [hat];simp [hq])
     clear hat
     go_wp2_with fail
     go_ret
     exact ⟨zqf (by exact (zhf (by rw [HKS.out];exact hlt) (by rw [HKS.out];exact HBAD)).symm),bl_⟩
    skip
    cases hq2 : decide (1000000 < KS[k])
    rotate_left
    ·
     skip
     have HBAD:=hd_ (show keyAt KS k = false by rw [hat];simp [hq,hq2])
     clear hat
     go_wp2_with fail
     go_ret
     exact ⟨zqf (by exact (zhf (by rw [HKS.out];exact hlt) (by rw [HKS.out];exact HBAD)).symm),bl_⟩
    skip
    cases hh : hasB (KS.take k) KS[k]
    ·
     have HH2:=hd_ hh
     clear hh
     have HGOOD:=hd_ (show keyAt KS k = true by rw [hat];simp [hq,hq2,HH2.out])
     clear hat
     go_wp2_with fail
     refine (HHAS.out _ (HRK.out.take k)).mono ?_
     rintro e w7 ⟨rfl,rfl⟩
     rw [HH2.out]
     go_wp2_with fail
     go_roundw
     case rel => exact ⟨k + 1,by omega,by go_num,hd_ (by rw [zjs,HEV.out,HGOOD.out];rfl),trivial⟩
     case measure => simp [intOf];omega
    have HH2:=hd_ hh
    clear hh
    have HBAD:=hd_ (show keyAt KS k = false by rw [hat];simp [hq,hq2,HH2.out])
    clear hat
    go_wp2_with fail
    refine (HHAS.out _ (HRK.out.take k)).mono ?_
    rintro e w7 ⟨rfl,rfl⟩
    rw [HH2.out]
    go_wp2_with fail
    go_ret
    exact ⟨zqf (by exact (zhf (by rw [HKS.out];exact hlt) (by rw [HKS.out];exact HBAD)).symm),bl_⟩

end Go.Proofs.YtdbmkfmenfcbiaaGreat
namespace Go.Proofs.YtdbmkfmenfcbiaaGreat
open Go
/-! ### lines -/
def lineTo (l : List Line) (k c a : Int) : List Line:=if a = 0 then l else addF ⟨k,c,a⟩ l
def nz (l : List Line) : List Line:=l.filter fun x => x.Amt != 0
theorem nz_nil : nz [] = []:=rfl
theorem zph (x : Line) (l : List Line) : nz (x :: l) = if x.Amt = 0 then nz l else x :: nz l:=by
 unfold nz
 rw [List.filter_cons]
 by_cases h : x.Amt = 0 <;> simp [h]
theorem addF_ahead {x y : Line} {l : List Line} (h : lessB x.Kind x.Ch y.Kind y.Ch = true) : addF x (y :: l) = x :: y :: l:=by
 rw [zky] at h
 rw [addF,if_neg (by rw [zky];omega),if_neg (by omega)]
theorem line2 {k c a k' c' a' : Int} (h : k < k') : lineTo (lineTo [] k c a) k' c' a' = nz [⟨k,c,a⟩,⟨k',c',a'⟩]:=by
 have h1 : lessB k c k' c' = true:=zky.2 (Or.inl h)
 unfold lineTo
 simp only [zph,nz_nil]
 by_cases h0 : a = 0 <;> by_cases h2 : a' = 0 <;> simp [h0,h2,addF,h1]
theorem line2r {k c a k' c' a' : Int} (h : k < k') : lineTo (lineTo [] k' c' a') k c a = nz [⟨k,c,a⟩,⟨k',c',a'⟩]:=by
 have h1 : lessB k c k' c' = true:=zky.2 (Or.inl h)
 have h2 : addF ⟨k,c,a⟩ [⟨k',c',a'⟩] = [⟨k,c,a⟩,⟨k',c',a'⟩]:=addF_ahead h1
 unfold lineTo
 simp only [zph,nz_nil]
 by_cases h0 : a = 0 <;> by_cases h3 : a' = 0 <;> simp [h0,h3,addF]
 simpa [addF] using h2
theorem line3 {k c a k' c' a' k2 c2 a2 : Int} (h : k < k') (h2 : k' < k2) : lineTo (lineTo (lineTo [] k c a) k' c' a') k2 c2 a2 = nz [⟨k,c,a⟩,⟨k',c',a'⟩,⟨k2,c2,a2⟩]:=by
 have h1 : lessB k' c' k2 c2 = true:=zky.2 (Or.inl h2)
 have h3 : lessB k c k2 c2 = true:=zky.2 (Or.inl (by omega))
 rw [line2 h]
 unfold lineTo
 simp only [zph,nz_nil]
 by_cases e0 : a = 0 <;> by_cases e1 : a' = 0 <;> by_cases e2 : a2 = 0 <;> simp [e0,e1,e2,addF,h1,h3]
theorem zmi (x : Line) : ∀ l : List Line,(∀ y ∈ l,¬(y.Kind = x.Kind∧y.Ch = x.Ch)) → mergeF l [x] = some (addF x l)
 | [],_ => by simp [mergeF,addF]
 | y :: l,h => by
  have hy:=h y (by simp)
  rw [mergeF,addF]
  by_cases h1 : lessB y.Kind y.Ch x.Kind x.Ch = true
  ·
   rw [if_pos h1,if_pos h1,zmi x l (fun z hz => h z (by simp [hz]))]
   rfl
  rw [if_neg h1,if_neg h1,if_neg hy]
  have h2 : lessB x.Kind x.Ch y.Kind y.Ch = true:=by
   rw [Bool.not_eq_true,← Bool.not_eq_true,zky] at h1
   rw [zky]
   omega
  rw [if_pos h2]
  have h3 : ∀ m : List Line,mergeF m [] = some m:=by
   intro m
   induction m with
   | nil => simp [mergeF]
   | cons z m ih => rw [mergeF,ih];rfl
  rw [h3]
  rfl
/-! ### events -/
def evB (e : Event) : Bool :=
 if e.Kind = 1 then e.Key == 0 && e.Ch == 0 && e.To == 0 && inB e.Amt 1 1125899906842624 && e.Fee == 0 && !e.Yes
 else if e.Kind = 2 then e.Key == 0 && isChanB e.Ch && e.To == 0 && inB e.Amt 1 1125899906842624 && amtB e.Fee && !e.Yes
 else if e.Kind = 3 then e.Key == 0 && isChanB e.Ch && e.To == 0 && e.Amt == 0 && amtB e.Fee && !e.Yes
 else if e.Kind = 4 then e.Key == 0 && isChanB e.Ch && e.To == 0 && amtB e.Amt && inB e.Fee 0 1000000 && !e.Yes
 else if e.Kind = 5 then inB e.Key 1 1000000 && isChanB e.Ch && isChanB e.To && (e.Ch != e.To) && inB e.Amt 1 1125899906842624 && e.Fee == 0
 else if e.Kind = 8 then e.Key == 0 && e.Ch == 0 && e.To == 0 && e.Amt == 0 && e.Fee == 0 && !e.Yes
 else if e.Kind = 9 then inB e.Key 1 1000000 && isChanB e.Ch && isChanB e.To && (e.Ch != e.To) && inB e.Amt 1 1125899906842624 && amtB e.Fee && !e.Yes
 else if e.Kind = 6 ∨ e.Kind = 7 ∨ e.Kind = 10 ∨ e.Kind = 11 then inB e.Key 1 1000000 && e.Ch == 0 && e.To == 0 && e.Amt == 0 && e.Fee == 0 && !e.Yes
 else false
/-! ### pieces -/
def chan0 : Chan:=⟨0,0,0,0,0,0,0⟩
def chanOf (cs : List Chan) (ch : Int) : Chan:=cs.getD (chanIx cs ch).toNat chan0
def setCh (cs : List Chan) (ch : Int) (f : Chan → Chan) : List Chan:=cs.modify (chanIx cs ch).toNat f
def moveF (dl dr : Int) (c : Chan) : Chan:={ c with Local:=c.Local + dl,Remote:=c.Remote + dr }
def moveC (cs : List Chan) (ch dl dr : Int) : List Chan:=setCh cs ch (moveF dl dr)
def insC (c : Chan) (cs : List Chan) : List Chan:=cs.takeWhile (fun x => decide (x.Id < c.Id)) ++ c :: cs.dropWhile (fun x => decide (x.Id < c.Id))
def usesH (ch : Int) (h : Htlc) : Bool:=h.In == ch || h.Out == ch
def usesC (ch : Int) (c : Circle) : Bool:=c.From == ch || c.To == ch
def busyB (hs : List Htlc) (os : List Circle) (ch : Int) : Bool:=hs.any (usesH ch) || os.any (usesC ch)
def fewH (ch n : Int) (h : Htlc) : Int:=if (h.Out == ch) = true then (if h.Kept = true then n else n + h.AmtOut) else n
def slotH (ch n : Int) (h : Htlc) : Int:=if (h.Out == ch) = true then n + 1 else n
def slotFewH (ch n : Int) (h : Htlc) : Int:=if (h.Out == ch) = true then (if h.Kept = true then n else n + 1) else n
def standB (score : Int) (yes : Bool) : Bool:=inB score (-100) 100 && decide (20 ≤ score) && yes
def allowF (size few all sf s amt : Int) (good : Bool) : Int :=
 if (amtB size && amtB few && amtB all && amtB amt && decide (0 ≤ sf) && decide (0 ≤ s) && decide (few ≤ all) && decide (sf ≤ s)) = false then 0
 else if 10 ≤ s ∨ size < all + amt then 0
 else if sf < 5∧few + amt ≤ size / 2 then 1
 else if good = true then 2 else 0
def roomF (hs : List Htlc) (tq : Chan) (ch amt score : Int) (yes : Bool) : Int :=
 allowF tq.Size (hs.foldl (fewH ch) 0) (hs.foldl (outH ch) 0) (hs.foldl (slotFewH ch) 0) (hs.foldl (slotH ch) 0) amt (standB score yes)
def feeQ (ppm n : Int) : Int:=n * ppm / 1000000 + (if 0 < n * ppm % 1000000 then 1 else 0)
def feeOk (base ppm n : Int) : Bool:=amtB base && amtB n && inB ppm 0 1000000 && amtB (feeQ ppm n) && amtB (base + feeQ ppm n)
def feeV (base ppm n : Int) : Int:=if feeOk base ppm n = true then base + feeQ ppm n else 0
def upF (n : Int) : Int:=if inB n (-100) 100 = true then min (n + 10) 100 else 0
def downF (n : Int) : Int:=if inB n (-100) 100 = true then max (n - 15) (-100) else 0
def fadeF (n : Int) : Int:=if inB n (-100) 100 = true then (if 0 < n then n - 1 else if n < 0 then n + 1 else 0) else 0
def scoreUp (c : Chan) : Chan:={ c with Score:=upF c.Score }
def scoreDown (c : Chan) : Chan:={ c with Score:=downF c.Score }
def fadeC (c : Chan) : Chan:={ c with Score:=fadeF c.Score }
def olderH (h : Htlc) : Htlc:={ h with Age:=if h.Age < 1125899906842624 then h.Age + 1 else h.Age }
/-! ### what an event does: the code, the book, the lines -/
structure Out where
 code : Int
 b : Bk
 l : List Line
def bad (c : Int) : Out:=⟨c,bk0,[]⟩
def done (b : Bk) (l : List Line) : Out:=⟨0,{ b with n:=if l = [] then b.n else b.n + 1 },l⟩
def depB (b : Bk) (e : Event) : Out :=
 if 1125899906842624 < b.w + e.Amt then bad 2 else done { b with w:=b.w + e.Amt } (nz [⟨1,0,e.Amt⟩,⟨2,0,-e.Amt⟩])
def openB (b : Bk) (e : Event) : Out :=
 if 1125899906842624 < e.Amt + e.Fee then bad 2
 else if 0 ≤ chanIx b.cs e.Ch ∨ 20 ≤ b.cs.length then bad 3
 else if b.w < e.Amt then bad 4
 else done { b with cs:=insC ⟨e.Ch,e.Amt + e.Fee,e.Amt,e.Fee,0,0,0⟩ b.cs,w:=b.w - e.Amt } (nz [⟨1,0,-e.Amt⟩,⟨6,e.Ch,e.Amt⟩])
def priceB (b : Bk) (e : Event) : Out :=
 if chanIx b.cs e.Ch < 0 then bad 6 else done { b with cs:=setCh b.cs e.Ch fun c => { c with Base:=e.Amt,Ppm:=e.Fee } } []
def tickB (b : Bk) : Out :=
 if b.t = 1125899906842624 then bad 2
 else done { b with t:=b.t + 1,hs:=b.hs.map olderH,cs:=if (b.t + 1) % 5 = 0 then b.cs.map fadeC else b.cs } []
end Go.Proofs.YtdbmkfmenfcbiaaGreat
namespace Go.Proofs.YtdbmkfmenfcbiaaGreat
open Go.RowKit

theorem bookB_i (bt bn bw : Int) (cs : List Chan) (hs : List Htlc) (os : List Circle) :
    bookB bt bn bw cs hs os = (amtB bt && amtB bw && inB bn 1 1125899906842624 && !decide ((20 : Int) < (cs.length : Int)) && partsOkB cs hs os && everyTo cs.length (chanOk cs hs os)):=by
  rw [Bool.eq_iff_iff]
  simp only [bookB,partsOkB,Bool.and_eq_true,decide_eq_true_eq,Bool.not_eq_true',decide_eq_false_iff_not]
  constructor
  · rintro ⟨⟨⟨⟨⟨⟨⟨h1,h2⟩,h3⟩,h4⟩,h5⟩,h6⟩,h7⟩,h8⟩;exact ⟨⟨⟨⟨⟨h1,h2⟩,h3⟩,by omega⟩,⟨h5,h6⟩,h7⟩,h8⟩
  · rintro ⟨⟨⟨⟨⟨h1,h2⟩,h3⟩,h4⟩,⟨h5,h6⟩,h7⟩,h8⟩;exact ⟨⟨⟨⟨⟨⟨⟨h1,h2⟩,h3⟩,by omega⟩,h5⟩,h6⟩,h7⟩,h8⟩
theorem bookB_s (bt bn bw : Int) (cs : List Chan) (hs : List Htlc) (os : List Circle) :
    bookB bt bn bw cs hs os = (amtB bt && amtB bw && !decide (bn < 1) && !decide (1125899906842624 < bn) && !decide ((20 : Int) < (cs.length : Int)) && !decide ((60 : Int) < (hs.length : Int)) && !decide ((20 : Int) < (os.length : Int)) && partsB cs hs os && everyTo cs.length (chanOk cs hs os)):=by
  rw [Bool.eq_iff_iff]
  simp only [bookB,Bool.and_eq_true,zjj,decide_eq_true_eq,Bool.not_eq_true',decide_eq_false_iff_not]
  constructor
  · rintro ⟨⟨⟨⟨⟨⟨⟨h1,h2⟩,h3⟩,h4⟩,h5⟩,h6⟩,h7⟩,h8⟩;exact ⟨⟨⟨⟨⟨⟨⟨⟨h1,h2⟩,by omega⟩,by omega⟩,by omega⟩,by omega⟩,by omega⟩,h7⟩,h8⟩
  · rintro ⟨⟨⟨⟨⟨⟨⟨⟨h1,h2⟩,h3⟩,h3'⟩,h4⟩,h5⟩,h6⟩,h7⟩,h8⟩;exact ⟨⟨⟨⟨⟨⟨⟨h1,h2⟩,by omega⟩,by omega⟩,by omega⟩,by omega⟩,h7⟩,h8⟩
theorem chB_i (hs : List Htlc) (os : List Circle) (c : Chan) : chB hs os c = (isChanB c.Id && amtB c.Local && amtB c.Remote && amtB c.Base && inB c.Ppm 0 1000000 && inB c.Score (-100) 100 && amtB c.Size && !(c.Size != c.Local + c.Remote + outOf hs os c.Id + inOf hs os c.Id)):=by
  simp [chB,bne]
theorem chB_s (hs : List Htlc) (os : List Circle) (c : Chan) : chB hs os c = (!decide (c.Id < 1) && !decide (99 < c.Id) && amtB c.Local && amtB c.Remote && amtB c.Base && !decide (c.Ppm < 0) && !decide (1000000 < c.Ppm) && inB c.Score (-100) 100 && amtB c.Size && !(c.Local + c.Remote + outOf hs os c.Id + inOf hs os c.Id != c.Size)):=by
  rw [Bool.eq_iff_iff]
  simp only [chB,Bool.and_eq_true,isChanB_iff,zjj,Bool.not_eq_true',decide_eq_false_iff_not,beq_iff_eq,bne_eq_false_iff_eq]
  constructor
  · rintro ⟨⟨⟨⟨⟨⟨⟨h1,h2⟩,h3⟩,h4⟩,h5⟩,h6⟩,h7⟩,h8⟩;exact ⟨⟨⟨⟨⟨⟨⟨⟨⟨by omega,by omega⟩,h2⟩,h3⟩,h4⟩,by omega⟩,by omega⟩,h6⟩,h7⟩,h8.symm⟩
  · rintro ⟨⟨⟨⟨⟨⟨⟨⟨⟨h1,h1'⟩,h2⟩,h3⟩,h4⟩,h5⟩,h5'⟩,h6⟩,h7⟩,h8⟩;exact ⟨⟨⟨⟨⟨⟨⟨by omega,h2⟩,h3⟩,h4⟩,by omega⟩,h6⟩,h7⟩,h8.symm⟩
theorem next_le (a b : Int) : decide (a < b) = !decide (b ≤ a):=by
  rw [Bool.eq_iff_iff]
  simp
theorem zxe {bt bn bw : Int} {cs : List Chan} {hs : List Htlc} {os : List Circle} {k : Nat} (hk : k < cs.length) (h : chanOk cs hs os k = false) : bookB bt bn bw cs hs os = false:=by
  unfold bookB
  rw [zwy hk h,Bool.and_false]
end Go.Proofs.YtdbmkfmenfcbiaaGreat
namespace Go.Proofs.YtdbmkfmenfcbiaaGreat
open Go.RowKit

structure Mvd (w w' : World) (s : Nat → Prop) : Prop where
  os : w'.os = w.os
  tape : w'.tape = w.tape
  output : w'.output = w.output
  size : w.heap.size ≤ w'.heap.size
  block : ∀ k,k < w.heap.size → ¬ s k → w'.heap[k]? = w.heap[k]?
section
variable {w w' w'' a : World} {s : Nat → Prop}
theorem Mvd.of_grown {g : Nat} (h : w.grownBy w' (some g)) (hs : s g) : Mvd w w' s:=⟨h.os,h.tape,h.output,h.size,fun k hk hn => h.block k hk (fun e => by injection e with e;subst e;exact hn hs)⟩
theorem Mvd.trans (h : Mvd a w s) (k : Mvd w w' s) : Mvd a w' s :=
  ⟨k.os.trans h.os,k.tape.trans h.tape,k.output.trans h.output,Nat.le_trans h.size k.size,fun i hi hn => (k.block i (Nat.lt_of_lt_of_le hi h.size) hn).trans (h.block i hi hn)⟩
theorem Mvd.set (h : Mvd a w s) {q : Nat} (hq : s q) (i : Nat) (u : Value) : Mvd a (w.setCell ⟨q,i,none⟩ u) s:=h.trans (Mvd.of_grown (zqg (World.grownBy.refl w (some q)) i u) hq)
theorem Mvd.refl (w : World) (s : Nat → Prop) : Mvd w w s:=⟨rfl,rfl,rfl,Nat.le_refl _,fun _ _ _ => rfl⟩
theorem Mvd.alloc (h : Mvd a w s) (o : Obj) : Mvd a (w.alloc o) s:=h.trans ⟨rfl,rfl,rfl,by simp,fun _ hk _ => zqd hk (by rw [Array.getElem?_eq_getElem hk]) |>.trans (by rw [Array.getElem?_eq_getElem hk])⟩
theorem Mvd.heap {n : Nat} {x : Obj} (h : Mvd w w' s) (hn : ¬ s n) (k : w.heap[n]? = some x) : w'.heap[n]? = some x:=(h.block n (gz_ k).1 hn).trans k
theorem Mvd.grown {g : Nat} (h : a.grownBy w (some g)) (k : Mvd w w' s) (hs : ∀ i,s i → i = g ∨ a.heap.size ≤ i) : a.grownBy w' (some g) :=
  ⟨k.os.trans h.os,k.tape.trans h.tape,k.output.trans h.output,Nat.le_trans h.size k.size,fun i hi hne => (k.block i (Nat.lt_of_lt_of_le hi h.size) (fun hc => (hs i hc).elim (fun e => hne (by rw [e])) (fun e => absurd hi (by omega)))).trans (h.block i hi hne)⟩
end
section
variable {w : World} {B q n cp : Nat} {e : TypeId} {L : List Line}
theorem Ow.shorter {A : Option Addr} {size : Nat} {rows : List (List Value)} (h : Ow w B e size (.slice A rows.length cp) rows) {m : Nat} (hm : m ≤ rows.length) : Ow w B e size (.slice A m cp) (rows.take m):=by
  have hlen : (rows.take m).length = m:=by rw [List.length_take];omega
  have hu : ∀ r ∈ rows.take m,r.length = size:=fun r hr => h.1 r (List.mem_of_mem_take hr)
  refine ⟨hu,by rw [hlen];rw [zxt _ size hu,hlen],?_⟩
  rcases h.2.2 with ⟨hv,h0⟩ | ⟨g,cap,cur,hv,hg,hh,hn,hmx,hs,ht⟩
  · left
    injection hv with h1 _ h3
    subst h1 h3
    have : m = 0:=by omega
    subst this
    exact ⟨rfl,by simp⟩
  · right
    injection hv with h1 _ h3
    subst h1 h3
    refine ⟨g,cp,cur,by rw [hlen],hg,hh,by rw [hlen];omega,hmx,hs,?_⟩
    rw [hlen]
    have : rows.flatten.take (m * size) = (rows.take m).flatten:=by
      conv => lhs;rw [← List.take_append_drop m rows,List.flatten_append]
      rw [List.take_append_of_le_length (by rw [zxt _ size hu,hlen];exact Nat.le_refl _),List.take_of_length_le (by rw [zxt _ size hu,hlen];exact Nat.le_refl _)]
    rw [← this,← ht,List.take_take,Nat.min_eq_left (Nat.mul_le_mul_right _ hm)]
end
set_option maxRecDepth 100000 in
set_option maxHeartbeats 16000000 in
theorem zwc (bt bn bw : Int) (cs : List Chan) (hs : List Htlc) (os : List Circle) (A1 A2 A3 : Option Addr) (p1 p2 p3 : Nat) (w : World) (hlc : cs.length ≤ 1048576) (hlh : hs.length ≤ 1048576) (hlo : os.length ≤ 1048576) (hr : RdBook w w.heap.size A1 cs A2 hs A3 os) :
  Calls Tryz.prog 42 #[.agg #[.int .i64 bt,.int .i64 bn,.int .i64 bw,.slice A1 cs.length p1,.slice A2 hs.length p2,.slice A3 os.length p3]] w fun e w' => e = .returned (.bool (bookB bt bn bw cs hs os))∧Below w.heap.size w w':=by
 have HR:=hd_ hr
 have HCH:=hd_ hr.c
 clear hr
 have hbk:=bookB_i bt bn bw cs hs os
 cases a1 : amtB bt
 ·
  skip
  have HBAD:=hd_ (show bookB bt bn bw cs hs os = false by rw [hbk];simp [a1])
  clear hbk
  go_enter Tryz.func42,Tryz.ntmps42
  go_wp2_with (first | (go_at_call 50;refine (zqo _ _).mono ?_;rintro e w' ⟨rfl,rfl⟩) | (go_at_call 82;refine (i_in _ _ _ _).mono ?_;rintro e w' ⟨rfl,rfl⟩))
  go_ret
  exact ⟨zqf HBAD.out.symm,bl_⟩
 skip
 cases a2 : amtB bw
 ·
  skip
  have HBAD:=hd_ (show bookB bt bn bw cs hs os = false by rw [hbk];simp [a1,a2])
  clear hbk
  go_enter Tryz.func42,Tryz.ntmps42
  go_wp2_with (first | (go_at_call 50;refine (zqo _ _).mono ?_;rintro e w' ⟨rfl,rfl⟩) | (go_at_call 82;refine (i_in _ _ _ _).mono ?_;rintro e w' ⟨rfl,rfl⟩))
  go_ret
  exact ⟨zqf HBAD.out.symm,bl_⟩
 skip
 cases a3 : inB bn 1 1125899906842624
 ·
  skip
  have HBAD:=hd_ (show bookB bt bn bw cs hs os = false by rw [hbk];simp [a1,a2,a3])
  clear hbk
  go_enter Tryz.func42,Tryz.ntmps42
  go_wp2_with (first | (go_at_call 50;refine (zqo _ _).mono ?_;rintro e w' ⟨rfl,rfl⟩) | (go_at_call 82;refine (i_in _ _ _ _).mono ?_;rintro e w' ⟨rfl,rfl⟩))
  go_ret
  exact ⟨zqf HBAD.out.symm,bl_⟩
 skip
 cases a4 : decide ((20 : Int) < (cs.length : Int))
 rotate_left
 ·
  skip
  have HBAD:=hd_ (show bookB bt bn bw cs hs os = false by rw [hbk];simp [a1,a2,a3,a4])
  clear hbk
  go_enter Tryz.func42,Tryz.ntmps42
  go_wp2_with (first | (go_at_call 50;refine (zqo _ _).mono ?_;rintro e w' ⟨rfl,rfl⟩) | (go_at_call 82;refine (i_in _ _ _ _).mono ?_;rintro e w' ⟨rfl,rfl⟩))
  go_ret
  exact ⟨zqf HBAD.out.symm,bl_⟩
 skip
 cases a5 : partsOkB cs hs os
 ·
  have HP:=hd_ a5
  clear a5
  have HBAD:=hd_ (show bookB bt bn bw cs hs os = false by rw [hbk];simp [a1,a2,a3,a4,HP.out])
  clear hbk
  have hc20 : cs.length ≤ 20:=by rw [decide_eq_false_iff_not] at a4;omega
  go_enter Tryz.func42,Tryz.ntmps42
  go_wp2_with (first | (go_at_call 50;refine (zqo _ _).mono ?_;rintro e w' ⟨rfl,rfl⟩) | (go_at_call 82;refine (i_in _ _ _ _).mono ?_;rintro e w' ⟨rfl,rfl⟩))
  refine (zgt bt bn bw cs hs os _ _ _ _ _ _ _ hc20 hlh hlo ((HR.out.below (bl_)).more (by first | omega | (simp;omega) | (simp;done)))).mono ?_
  rintro e w1 ⟨rfl,hb1⟩
  have z1:=hb1.size
  try simp at z1
  rw [HP.out]
  go_wp2_with fail
  go_ret
  exact ⟨zqf HBAD.out.symm,bl_⟩
 have HP:=hd_ a5
 clear a5
 have HEQ:=hd_ (show bookB bt bn bw cs hs os = everyTo cs.length (chanOk cs hs os) by rw [hbk];simp [a1,a2,a3,a4,HP.out])
 have hsm0 : Small hs os:=by
  have:=HP.out
  simp only [partsOkB,Bool.and_eq_true,decide_eq_true_eq] at this
  exact zvs this.2 this.1.1 this.1.2
 clear hbk
 have hc20 : cs.length ≤ 20:=by rw [decide_eq_false_iff_not] at a4;omega
 go_enter Tryz.func42,Tryz.ntmps42
 go_wp2_with (first | (go_at_call 50;refine (zqo _ _).mono ?_;rintro e w' ⟨rfl,rfl⟩) | (go_at_call 82;refine (i_in _ _ _ _).mono ?_;rintro e w' ⟨rfl,rfl⟩))
 refine (zgt bt bn bw cs hs os _ _ _ _ _ _ _ hc20 hlh hlo ((HR.out.below (bl_)).more (by first | omega | (simp;omega) | (simp;done)))).mono ?_
 rintro e w1 ⟨rfl,hb1⟩
 have z1:=hb1.size
 try simp at z1
 rw [HP.out]
 have HSM:=hd_ hsm0
 clear hsm0
 obtain ⟨eh,e0,e1,e2,e3,e4,e5,ef,ezz⟩:=own6 (g:=w.heap.size) hb1 (by first | omega | (simp;omega) | (simp;done)) (hp_)
 have EH:=hd_ eh
 have hA1 : Below w.heap.size w w1:=bl_
 clear eh hb1
 go_wp2_with fail
 clear e0 e1 e2 e3 e4 e5 ef
 go_loopw [37] (fun i wr => ∃ k : Nat,k ≤ cs.length∧i = .int .i64 k∧Hid (everyTo k (chanOk cs hs os) = true)∧wr.heap[w.heap.size]? = some (.cells #[.int .i64 bt,.int .i64 bn,.int .i64 bw,.slice A1 cs.length p1,.slice A2 hs.length p2,.slice A3 os.length p3] 39 (0,0))∧Below w.heap.size w wr) (fun i _ => cs.length - (intOf i).toNat)
 case atStart => exact ⟨0,Nat.zero_le _,rfl,hd_ rfl,EH.out,hA1⟩
 case round =>
  clear hA1
  obtain ⟨k,hk,rfl,HEV,hbox,hbw⟩:=hrel
  have hbz:=hbw.size
  obtain ⟨eh,e0,e1,e2,e3,e4,e5,ef,ezz2⟩:=own6 (Below.refl wr.heap.size wr) (gz_ hbox).1 hbox
  have EB:=hd_ eh
  clear eh hbox
  by_cases hlt : k < cs.length
  rotate_left
  ·
   obtain rfl : k = cs.length:=by omega
   go_wp2_with fail
   go_ret
   exact ⟨zqf (by rw [HEQ.out,HEV.out]),bl_⟩
  obtain ⟨b,off,rfl,hbB,c0,c1,c2,c3,c4,c5,c6⟩:=Chan.rd (HCH.out.below hbw) hlt
  have hbr : b < wr.heap.size:=by omega
  have bO:=HSM.out.out_bd cs[k].Id
  have bI:=HSM.out.in_bd cs[k].Id
  have hch:=chB_i hs os cs[k]
  have TR:=fun W q => i_transit bt bn bw cs hs os (some ⟨b,off,none⟩) A2 A3 p1 p2 p3 cs[k].Id W HSM q
  obtain ⟨OUT,hOUT⟩ : ∃ x,outOf hs os cs[k].Id = x:=⟨_,rfl⟩
  obtain ⟨IN,hIN⟩ : ∃ x,inOf hs os cs[k].Id = x:=⟨_,rfl⟩
  rw [hOUT] at bO TR hch
  rw [hIN] at bI TR hch
  have HTR:=hd_ TR
  obtain ⟨bO1,bO2⟩:=bO
  obtain ⟨bI1,bI2⟩:=bI
  clear TR hOUT hIN
  by_cases hk0 : k = 0
  ·
   have hat : chanOk cs hs os k = chB hs os cs[k]:=by
    have:=zvo (cs:=cs) (hs:=hs) (os:=os) (by omega : 0 < cs.length)
    subst hk0
    exact this
   rw [hch] at hat
   have h3' : decide ((0 : Int) < (k : Int)) = false:=decide_eq_false (by omega)
   have h3'' : decide (0 < k) = false:=decide_eq_false (by omega)
   clear hk0 hch
   cases t1 : isChanB cs[k].Id
   ·
    have H1:=hd_ t1
    have HBAD:=hd_ (show chanOk cs hs os k = false by rw [hat];simp [H1.out])
    clear hat
    go_wp2_with fail
    go_quiet ((first | (go_at_call 84;exact zqh (zxa _ _)) | (go_at_call 50;exact zqh (zqo _ _)) | (go_at_call 82;exact zqh (i_in _ _ _ _)) | (go_at_call 85;exact zqh (zxi _ _))))
    clear h3'
    go_wp2_with fail
    go_ret
    exact ⟨zqf (zxe hlt HBAD.out).symm,bl_⟩
   have H1:=hd_ t1
   cases t3 : amtB cs[k].Local
   ·
    have H3:=hd_ t3
    have HBAD:=hd_ (show chanOk cs hs os k = false by rw [hat];simp [H1.out,H3.out])
    clear hat
    go_wp2_with fail
    go_quiet ((first | (go_at_call 84;exact zqh (zxa _ _)) | (go_at_call 50;exact zqh (zqo _ _)) | (go_at_call 82;exact zqh (i_in _ _ _ _)) | (go_at_call 85;exact zqh (zxi _ _))))
    clear h3'
    go_wp2_with fail
    go_ret
    exact ⟨zqf (zxe hlt HBAD.out).symm,bl_⟩
   have H3:=hd_ t3
   cases t4 : amtB cs[k].Remote
   ·
    have H4:=hd_ t4
    have HBAD:=hd_ (show chanOk cs hs os k = false by rw [hat];simp [H1.out,H3.out,H4.out])
    clear hat
    go_wp2_with fail
    go_quiet ((first | (go_at_call 84;exact zqh (zxa _ _)) | (go_at_call 50;exact zqh (zqo _ _)) | (go_at_call 82;exact zqh (i_in _ _ _ _)) | (go_at_call 85;exact zqh (zxi _ _))))
    clear h3'
    go_wp2_with fail
    go_ret
    exact ⟨zqf (zxe hlt HBAD.out).symm,bl_⟩
   have H4:=hd_ t4
   cases t5 : amtB cs[k].Base
   ·
    have H5:=hd_ t5
    have HBAD:=hd_ (show chanOk cs hs os k = false by rw [hat];simp [H1.out,H3.out,H4.out,H5.out])
    clear hat
    go_wp2_with fail
    go_quiet ((first | (go_at_call 84;exact zqh (zxa _ _)) | (go_at_call 50;exact zqh (zqo _ _)) | (go_at_call 82;exact zqh (i_in _ _ _ _)) | (go_at_call 85;exact zqh (zxi _ _))))
    clear h3'
    go_wp2_with fail
    go_ret
    exact ⟨zqf (zxe hlt HBAD.out).symm,bl_⟩
   have H5:=hd_ t5
   cases t6 : inB cs[k].Ppm 0 1000000
   ·
    have H6:=hd_ t6
    have HBAD:=hd_ (show chanOk cs hs os k = false by rw [hat];simp [H1.out,H3.out,H4.out,H5.out,H6.out])
    clear hat
    go_wp2_with fail
    go_quiet ((first | (go_at_call 84;exact zqh (zxa _ _)) | (go_at_call 50;exact zqh (zqo _ _)) | (go_at_call 82;exact zqh (i_in _ _ _ _)) | (go_at_call 85;exact zqh (zxi _ _))))
    clear h3'
    go_wp2_with fail
    go_ret
    exact ⟨zqf (zxe hlt HBAD.out).symm,bl_⟩
   have H6:=hd_ t6
   cases t7 : inB cs[k].Score (-100) 100
   ·
    have H7:=hd_ t7
    have HBAD:=hd_ (show chanOk cs hs os k = false by rw [hat];simp [H1.out,H3.out,H4.out,H5.out,H6.out,H7.out])
    clear hat
    go_wp2_with fail
    go_quiet ((first | (go_at_call 84;exact zqh (zxa _ _)) | (go_at_call 50;exact zqh (zqo _ _)) | (go_at_call 82;exact zqh (i_in _ _ _ _)) | (go_at_call 85;exact zqh (zxi _ _))))
    clear h3'
    go_wp2_with fail
    go_ret
    exact ⟨zqf (zxe hlt HBAD.out).symm,bl_⟩
   have H7:=hd_ t7
   cases t8 : amtB cs[k].Size
   ·
    have H8:=hd_ t8
    have HBAD:=hd_ (show chanOk cs hs os k = false by rw [hat];simp [H1.out,H3.out,H4.out,H5.out,H6.out,H7.out,H8.out])
    clear hat
    go_wp2_with fail
    go_quiet ((first | (go_at_call 84;exact zqh (zxa _ _)) | (go_at_call 50;exact zqh (zqo _ _)) | (go_at_call 82;exact zqh (i_in _ _ _ _)) | (go_at_call 85;exact zqh (zxi _ _))))
    clear h3'
    go_wp2_with fail
    go_ret
    exact ⟨zqf (zxe hlt HBAD.out).symm,bl_⟩
   have H8:=hd_ t8
   cases t9 : (cs[k].Size != cs[k].Local + cs[k].Remote + OUT + IN)
   ·
    skip
    have HGOOD:=hd_ (show chanOk cs hs os k = true by rw [hat];simp [H1.out,H3.out,H4.out,H5.out,H6.out,H7.out,H8.out,t9])
    obtain ⟨y3,y4⟩:=zja.1 H3
    obtain ⟨y5,y6⟩:=zja.1 H4
    clear hat
    go_wp2_with fail
    go_quiet ((first | (go_at_call 84;exact zqh (zxa _ _)) | (go_at_call 50;exact zqh (zqo _ _)) | (go_at_call 82;exact zqh (i_in _ _ _ _)) | (go_at_call 85;exact zqh (zxi _ _))))
    clear h3'
    go_wp2_with fail
    refine (HTR.out _ ((HR.out.below (bl_)).more (by first | omega | (simp;omega) | (simp;done)))).mono ?_
    rintro e w10 ⟨rfl,hb10⟩
    have z10:=hb10.size
    obtain ⟨lh,l0,l1,l2,l3,l4,l5,l6,lf,lz⟩:=own7 (g:=wr.heap.size) hb10 (by first | omega | (simp;omega) | (simp;done)) (hp_)
    obtain ⟨mh,m0,m1,m2,m3,m4,m5,mf,mz⟩:=own6 (g:=w.heap.size) hb10 (by first | omega | (simp;omega) | (simp;done)) (by have hq:=zqd (o:=.cells #[.int .i64 cs[k].Id,.int .i64 cs[k].Size,.int .i64 cs[k].Local,.int .i64 cs[k].Remote,.int .i64 cs[k].Base,.int .i64 cs[k].Ppm,.int .i64 cs[k].Score] 103) ezz2 EB.out;exact hp_)
    have MH:=hd_ mh
    have hbw10 : Below w.heap.size w w10:=bl_
    clear lh mh hb10
    go_wp2_with fail
    go_roundw
    case rel => exact ⟨k + 1,by omega,by go_num,hd_ (by rw [zjs,HEV.out,HGOOD.out];rfl),MH.out,bl_⟩
    case measure => simp [intOf];omega
   skip
   have HBAD:=hd_ (show chanOk cs hs os k = false by rw [hat];simp [H1.out,H3.out,H4.out,H5.out,H6.out,H7.out,H8.out,t9])
   obtain ⟨y3,y4⟩:=zja.1 H3
   obtain ⟨y5,y6⟩:=zja.1 H4
   clear hat
   go_wp2_with fail
   go_quiet ((first | (go_at_call 84;exact zqh (zxa _ _)) | (go_at_call 50;exact zqh (zqo _ _)) | (go_at_call 82;exact zqh (i_in _ _ _ _)) | (go_at_call 85;exact zqh (zxi _ _))))
   clear h3'
   go_wp2_with fail
   refine (HTR.out _ ((HR.out.below (bl_)).more (by first | omega | (simp;omega) | (simp;done)))).mono ?_
   rintro e w10 ⟨rfl,hb10⟩
   have z10:=hb10.size
   obtain ⟨lh,l0,l1,l2,l3,l4,l5,l6,lf,lz⟩:=own7 (g:=wr.heap.size) hb10 (by first | omega | (simp;omega) | (simp;done)) (hp_)
   obtain ⟨mh,m0,m1,m2,m3,m4,m5,mf,mz⟩:=own6 (g:=w.heap.size) hb10 (by first | omega | (simp;omega) | (simp;done)) (by have hq:=zqd (o:=.cells #[.int .i64 cs[k].Id,.int .i64 cs[k].Size,.int .i64 cs[k].Local,.int .i64 cs[k].Remote,.int .i64 cs[k].Base,.int .i64 cs[k].Ppm,.int .i64 cs[k].Score] 103) ezz2 EB.out;exact hp_)
   have MH:=hd_ mh
   have hbw10 : Below w.heap.size w w10:=bl_
   clear lh mh hb10
   go_wp2_with fail
   go_ret
   exact ⟨zqf (zxe hlt HBAD.out).symm,bl_⟩
  obtain ⟨j,hkj⟩ : ∃ j,k = j + 1:=⟨k - 1,by omega⟩
  have hj : j < cs.length:=by omega
  have hat : chanOk cs hs os k = (chB hs os cs[k] && decide (cs[j].Id < cs[k].Id)):=by subst hkj;exact zvb hlt hj
  rw [hch,next_le] at hat
  obtain ⟨b',off',e',_,d0,d1,d2,d3,d4,d5,d6⟩:=Chan.rd (HCH.out.below hbw) hj
  simp only [Option.some.injEq,Addr.mk.injEq,and_true] at e'
  obtain ⟨rfl,rfl⟩:=e'
  have h3' : decide ((0 : Int) < (k : Int)) = true:=decide_eq_true (by omega)
  have h3'' : decide (0 < k) = true:=decide_eq_true (by omega)
  have i1 : (0 : Int) ≤ (j : Int):=by omega
  have i2 : (j : Int) < (cs.length : Int):=by omega
  have e1' : IntKind.i64.wrap ((k : Int) - 1) = (j : Int):=by rw [hkj];exact (IntWalk.i64_in _ ⟨by omega,by omega⟩).trans (by omega)
  clear hkj hk0 d1 d2 d3 d4 d5 d6
  clear hch
  cases t1 : isChanB cs[k].Id
  ·
   have H1:=hd_ t1
   have HBAD:=hd_ (show chanOk cs hs os k = false by rw [hat];simp [H1.out])
   clear hat
   go_wp2_with fail
   go_quiet ((first | (go_at_call 84;exact zqh (zxa _ _)) | (go_at_call 50;exact zqh (zqo _ _)) | (go_at_call 82;exact zqh (i_in _ _ _ _)) | (go_at_call 85;exact zqh (zxi _ _))))
   clear d0 e1'
   go_wp2_with fail
   go_ret
   exact ⟨zqf (zxe hlt HBAD.out).symm,bl_⟩
  have H1:=hd_ t1
  cases t2 : decide (cs[k].Id ≤ cs[j].Id)
  rotate_left
  ·
   skip
   have HBAD:=hd_ (show chanOk cs hs os k = false by rw [hat];simp [H1.out,t2])
   clear hat
   go_wp2_with fail
   go_quiet ((first | (go_at_call 84;exact zqh (zxa _ _)) | (go_at_call 50;exact zqh (zqo _ _)) | (go_at_call 82;exact zqh (i_in _ _ _ _)) | (go_at_call 85;exact zqh (zxi _ _))))
   clear d0 e1'
   go_wp2_with fail
   go_ret
   exact ⟨zqf (zxe hlt HBAD.out).symm,bl_⟩
  skip
  cases t3 : amtB cs[k].Local
  ·
   have H3:=hd_ t3
   have HBAD:=hd_ (show chanOk cs hs os k = false by rw [hat];simp [H1.out,t2,H3.out])
   clear hat
   go_wp2_with fail
   go_quiet ((first | (go_at_call 84;exact zqh (zxa _ _)) | (go_at_call 50;exact zqh (zqo _ _)) | (go_at_call 82;exact zqh (i_in _ _ _ _)) | (go_at_call 85;exact zqh (zxi _ _))))
   clear d0 e1'
   go_wp2_with fail
   go_ret
   exact ⟨zqf (zxe hlt HBAD.out).symm,bl_⟩
  have H3:=hd_ t3
  cases t4 : amtB cs[k].Remote
  ·
   have H4:=hd_ t4
   have HBAD:=hd_ (show chanOk cs hs os k = false by rw [hat];simp [H1.out,t2,H3.out,H4.out])
   clear hat
   go_wp2_with fail
   go_quiet ((first | (go_at_call 84;exact zqh (zxa _ _)) | (go_at_call 50;exact zqh (zqo _ _)) | (go_at_call 82;exact zqh (i_in _ _ _ _)) | (go_at_call 85;exact zqh (zxi _ _))))
   clear d0 e1'
   go_wp2_with fail
   go_ret
   exact ⟨zqf (zxe hlt HBAD.out).symm,bl_⟩
  have H4:=hd_ t4
  cases t5 : amtB cs[k].Base
  ·
   have H5:=hd_ t5
   have HBAD:=hd_ (show chanOk cs hs os k = false by rw [hat];simp [H1.out,t2,H3.out,H4.out,H5.out])
   clear hat
   go_wp2_with fail
   go_quiet ((first | (go_at_call 84;exact zqh (zxa _ _)) | (go_at_call 50;exact zqh (zqo _ _)) | (go_at_call 82;exact zqh (i_in _ _ _ _)) | (go_at_call 85;exact zqh (zxi _ _))))
   clear d0 e1'
   go_wp2_with fail
   go_ret
   exact ⟨zqf (zxe hlt HBAD.out).symm,bl_⟩
  have H5:=hd_ t5
  cases t6 : inB cs[k].Ppm 0 1000000
  ·
   have H6:=hd_ t6
   have HBAD:=hd_ (show chanOk cs hs os k = false by rw [hat];simp [H1.out,t2,H3.out,H4.out,H5.out,H6.out])
   clear hat
   go_wp2_with fail
   go_quiet ((first | (go_at_call 84;exact zqh (zxa _ _)) | (go_at_call 50;exact zqh (zqo _ _)) | (go_at_call 82;exact zqh (i_in _ _ _ _)) | (go_at_call 85;exact zqh (zxi _ _))))
   clear d0 e1'
   go_wp2_with fail
   go_ret
   exact ⟨zqf (zxe hlt HBAD.out).symm,bl_⟩
  have H6:=hd_ t6
  cases t7 : inB cs[k].Score (-100) 100
  ·
   have H7:=hd_ t7
   have HBAD:=hd_ (show chanOk cs hs os k = false by rw [hat];simp [H1.out,t2,H3.out,H4.out,H5.out,H6.out,H7.out])
   clear hat
   go_wp2_with fail
   go_quiet ((first | (go_at_call 84;exact zqh (zxa _ _)) | (go_at_call 50;exact zqh (zqo _ _)) | (go_at_call 82;exact zqh (i_in _ _ _ _)) | (go_at_call 85;exact zqh (zxi _ _))))
   clear d0 e1'
   go_wp2_with fail
   go_ret
   exact ⟨zqf (zxe hlt HBAD.out).symm,bl_⟩
  have H7:=hd_ t7
  cases t8 : amtB cs[k].Size
  ·
   have H8:=hd_ t8
   have HBAD:=hd_ (show chanOk cs hs os k = false by rw [hat];simp [H1.out,t2,H3.out,H4.out,H5.out,H6.out,H7.out,H8.out])
   clear hat
   go_wp2_with fail
   go_quiet ((first | (go_at_call 84;exact zqh (zxa _ _)) | (go_at_call 50;exact zqh (zqo _ _)) | (go_at_call 82;exact zqh (i_in _ _ _ _)) | (go_at_call 85;exact zqh (zxi _ _))))
   clear d0 e1'
   go_wp2_with fail
   go_ret
   exact ⟨zqf (zxe hlt HBAD.out).symm,bl_⟩
  have H8:=hd_ t8
  cases t9 : (cs[k].Size != cs[k].Local + cs[k].Remote + OUT + IN)
  ·
   skip
   have HGOOD:=hd_ (show chanOk cs hs os k = true by rw [hat];simp [H1.out,t2,H3.out,H4.out,H5.out,H6.out,H7.out,H8.out,t9])
   obtain ⟨y3,y4⟩:=zja.1 H3
   obtain ⟨y5,y6⟩:=zja.1 H4
   clear hat
   go_wp2_with fail
   go_quiet ((first | (go_at_call 84;exact zqh (zxa _ _)) | (go_at_call 50;exact zqh (zqo _ _)) | (go_at_call 82;exact zqh (i_in _ _ _ _)) | (go_at_call 85;exact zqh (zxi _ _))))
   clear d0 e1'
   go_wp2_with fail
   refine (HTR.out _ ((HR.out.below (bl_)).more (by first | omega | (simp;omega) | (simp;done)))).mono ?_
   rintro e w10 ⟨rfl,hb10⟩
   have z10:=hb10.size
   obtain ⟨lh,l0,l1,l2,l3,l4,l5,l6,lf,lz⟩:=own7 (g:=wr.heap.size) hb10 (by first | omega | (simp;omega) | (simp;done)) (hp_)
   obtain ⟨mh,m0,m1,m2,m3,m4,m5,mf,mz⟩:=own6 (g:=w.heap.size) hb10 (by first | omega | (simp;omega) | (simp;done)) (by have hq:=zqd (o:=.cells #[.int .i64 cs[k].Id,.int .i64 cs[k].Size,.int .i64 cs[k].Local,.int .i64 cs[k].Remote,.int .i64 cs[k].Base,.int .i64 cs[k].Ppm,.int .i64 cs[k].Score] 103) ezz2 EB.out;exact hp_)
   have MH:=hd_ mh
   have hbw10 : Below w.heap.size w w10:=bl_
   clear lh mh hb10
   go_wp2_with fail
   go_roundw
   case rel => exact ⟨k + 1,by omega,by go_num,hd_ (by rw [zjs,HEV.out,HGOOD.out];rfl),MH.out,bl_⟩
   case measure => simp [intOf];omega
  skip
  have HBAD:=hd_ (show chanOk cs hs os k = false by rw [hat];simp [H1.out,t2,H3.out,H4.out,H5.out,H6.out,H7.out,H8.out,t9])
  obtain ⟨y3,y4⟩:=zja.1 H3
  obtain ⟨y5,y6⟩:=zja.1 H4
  clear hat
  go_wp2_with fail
  go_quiet ((first | (go_at_call 84;exact zqh (zxa _ _)) | (go_at_call 50;exact zqh (zqo _ _)) | (go_at_call 82;exact zqh (i_in _ _ _ _)) | (go_at_call 85;exact zqh (zxi _ _))))
  clear d0 e1'
  go_wp2_with fail
  refine (HTR.out _ ((HR.out.below (bl_)).more (by first | omega | (simp;omega) | (simp;done)))).mono ?_
  rintro e w10 ⟨rfl,hb10⟩
  have z10:=hb10.size
  obtain ⟨lh,l0,l1,l2,l3,l4,l5,l6,lf,lz⟩:=own7 (g:=wr.heap.size) hb10 (by first | omega | (simp;omega) | (simp;done)) (hp_)
  obtain ⟨mh,m0,m1,m2,m3,m4,m5,mf,mz⟩:=own6 (g:=w.heap.size) hb10 (by first | omega | (simp;omega) | (simp;done)) (by have hq:=zqd (o:=.cells #[.int .i64 cs[k].Id,.int .i64 cs[k].Size,.int .i64 cs[k].Local,.int .i64 cs[k].Remote,.int .i64 cs[k].Base,.int .i64 cs[k].Ppm,.int .i64 cs[k].Score] 103) ezz2 EB.out;exact hp_)
  have MH:=hd_ mh
  have hbw10 : Below w.heap.size w w10:=bl_
  clear lh mh hb10
  go_wp2_with fail
  go_ret
  exact ⟨zqf (zxe hlt HBAD.out).symm,bl_⟩
end Go.Proofs.YtdbmkfmenfcbiaaGreat
namespace Go.Proofs.YtdbmkfmenfcbiaaGreat
open Go.RowKit Go.Deep

def hasR (k : Int) : List Bool :=
  if k = 1 then [false,false,false,true,false,false]
  else if k = 2 ∨ k = 4 then [false,true,false,true,true,false]
  else if k = 3 then [false,true,false,false,true,false]
  else if k = 5 then [true,true,true,true,false,true]
  else if k = 9 then [true,true,true,true,true,false]
  else if k = 8 then [false,false,false,false,false,false]
  else [true,false,false,false,false,false]
def fldB (has : Bool) (n lo hi : Int) : Bool:=if has = true then inB n lo hi else n == 0
def evS (h0 h1 h2 h3 h4 h5 : Bool) (least most : Int) (e : Event) : Bool :=
  fldB h0 e.Key 1 1000000 && fldB h1 e.Ch 1 99 && fldB h2 e.To 1 99 && !(h2 && e.Ch == e.To) && fldB h3 e.Amt least 1125899906842624 && fldB h4 e.Fee 0 most && (h5 || !e.Yes)
theorem evB_out {e : Event} (h : e.Kind < 1 ∨ 11 < e.Kind) : evB e = false:=by
  unfold evB
  rw [if_neg (by omega),if_neg (by omega),if_neg (by omega),if_neg (by omega),if_neg (by omega),if_neg (by omega),if_neg (by omega),if_neg (by omega)]
theorem evB_in {e : Event} (h1 : 1 ≤ e.Kind) (h2 : e.Kind ≤ 11) : ∃ h0 h1' h2' h3 h4 h5,hasR e.Kind = [h0,h1',h2',h3,h4,h5]∧evB e = evS h0 h1' h2' h3 h4 h5 (if e.Kind = 4 then 0 else 1) (if e.Kind = 4 then 1000000 else 1125899906842624) e:=by
  obtain ⟨k,key,ch,tq,amt,fee,yes⟩:=e
  simp only at h1 h2
  have hk : k = 1 ∨ k = 2 ∨ k = 3 ∨ k = 4 ∨ k = 5 ∨ k = 6 ∨ k = 7 ∨ k = 8 ∨ k = 9 ∨ k = 10 ∨ k = 11:=by omega
  rcases hk with rfl | rfl | rfl | rfl | rfl | rfl | rfl | rfl | rfl | rfl | rfl <;>
    exact ⟨_,_,_,_,_,_,rfl,by cases yes <;> simp [evB,evS,fldB,isChanB,amtB,Bool.and_assoc,bne]⟩
theorem zkw {P : Program} {c : Go.Code} {Q : Exit → Act → World → Prop} {a : Act} {w : World} (h : ∀ wq,wq = w → Go.Code.wp P c Q a wq) : Go.Code.wp P c Q a w:=h w rfl
theorem zxv (has : Bool) (n lo hi : Int) (w : World) : Calls Tryz.prog 108 #[.bool has,.int .i64 n,.int .i64 lo,.int .i64 hi] w fun e w' => e = .returned (.bool (fldB has n lo hi))∧w = w':=by
  cases has
  · go_enter Tryz.func108,Tryz.ntmps108
    go_wp2
    go_ret
    exact ⟨rfl,rfl⟩
  · by_cases h1 : lo ≤ n <;> by_cases h2 : n ≤ hi
    all_goals
      go_enter Tryz.func108,Tryz.ntmps108
      go_wp2
      all_goals go_ret
      all_goals exact ⟨by simp [fldB,inB,h1,h2] <;> omega,rfl⟩
def HasP (k : Int) (w : World) (e : Ending) (w' : World) : Prop:=e = .returned (.slice (some ⟨w.heap.size,0,none⟩) 6 6)∧w' = w.alloc (.cells ((hasR k).map Value.bool).toArray 4)
theorem zpn (k : Int) (w : World) (h1 : 1 ≤ k) (h2 : k ≤ 11) : Calls Tryz.prog 107 #[.int .i64 k] w (HasP k w):=by
  have hk : k = 1 ∨ k = 2 ∨ k = 3 ∨ k = 4 ∨ k = 5 ∨ k = 6 ∨ k = 7 ∨ k = 8 ∨ k = 9 ∨ k = 10 ∨ k = 11:=by omega
  clear h1 h2
  rcases hk with rfl | rfl | rfl | rfl | rfl | rfl | rfl | rfl | rfl | rfl | rfl
  all_goals
    go_enter Tryz.func107,Tryz.ntmps107
    go_wp2
    go_ret
    exact ⟨rfl,rfl⟩
theorem s_Clamp (n lo hi : Int) (w : World) (h : lo ≤ hi) : Calls Tryz.prog 158 #[.int .i64 n,.int .i64 lo,.int .i64 hi] w fun e w' => e = .returned (.int .i64 (max lo (min n hi)))∧w = w':=by
 by_cases h1 : n < lo
 ·
  go_enter Tryz.func158,Tryz.ntmps158
  go_wp2
  go_ret
  exact ⟨zxc (by omega),rfl⟩
 by_cases h2 : hi < n
 all_goals
  go_enter Tryz.func158,Tryz.ntmps158
  go_wp2
  go_ret
  exact ⟨zxc (by omega),rfl⟩
theorem s_ScoreUp (n : Int) (w : World) : Calls Tryz.prog 114 #[.int .i64 n] w fun e w' => e = .returned (.int .i64 (upF n))∧w = w':=by
 cases h : inB n (-100) 100
 ·
  have HE:=hd_ (show upF n = 0 by unfold upF;rw [h];rfl)
  go_enter Tryz.func114,Tryz.ntmps114
  go_wp2_with (go_at_call 58;refine (zxf _ _).mono ?_;rintro e w' ⟨rfl,rfl⟩)
  go_ret
  exact ⟨zxc HE.out.symm,rfl⟩
 have HE:=hd_ (show upF n = min (n + 10) 100 by unfold upF;rw [h];rfl)
 obtain ⟨h1,h2⟩:=zjj.1 h
 go_enter Tryz.func114,Tryz.ntmps114
 go_wp2_with (first | (go_at_call 58;refine (zxf _ _).mono ?_;rintro e w' ⟨rfl,rfl⟩) | (go_at_call 158;refine (s_Clamp _ _ _ _ (by decide)).mono ?_;rintro e w' ⟨rfl,rfl⟩))
 go_ret
 exact ⟨zxc (by rw [HE.out];omega),rfl⟩
theorem s_ScoreDown (n : Int) (w : World) : Calls Tryz.prog 115 #[.int .i64 n] w fun e w' => e = .returned (.int .i64 (downF n))∧w = w':=by
 cases h : inB n (-100) 100
 ·
  have HE:=hd_ (show downF n = 0 by unfold downF;rw [h];rfl)
  go_enter Tryz.func115,Tryz.ntmps115
  go_wp2_with (go_at_call 58;refine (zxf _ _).mono ?_;rintro e w' ⟨rfl,rfl⟩)
  go_ret
  exact ⟨zxc HE.out.symm,rfl⟩
 have HE:=hd_ (show downF n = max (n - 15) (-100) by unfold downF;rw [h];rfl)
 obtain ⟨h1,h2⟩:=zjj.1 h
 go_enter Tryz.func115,Tryz.ntmps115
 go_wp2_with (first | (go_at_call 58;refine (zxf _ _).mono ?_;rintro e w' ⟨rfl,rfl⟩) | (go_at_call 158;refine (s_Clamp _ _ _ _ (by decide)).mono ?_;rintro e w' ⟨rfl,rfl⟩))
 go_ret
 exact ⟨zxc (by rw [HE.out];omega),rfl⟩
theorem s_ScoreFade (n : Int) (w : World) : Calls Tryz.prog 116 #[.int .i64 n] w fun e w' => e = .returned (.int .i64 (fadeF n))∧w = w':=by
 cases h : inB n (-100) 100
 ·
  have HE:=hd_ (show fadeF n = 0 by unfold fadeF;rw [h];rfl)
  go_enter Tryz.func116,Tryz.ntmps116
  go_wp2_with (go_at_call 58;refine (zxf _ _).mono ?_;rintro e w' ⟨rfl,rfl⟩)
  go_ret
  exact ⟨zxc HE.out.symm,rfl⟩
 have HE:=hd_ (show fadeF n = if 0 < n then n - 1 else if n < 0 then n + 1 else 0 by unfold fadeF;rw [h];rfl)
 obtain ⟨h1,h2⟩:=zjj.1 h
 by_cases h0 : n = 0
 ·
  subst h0
  go_enter Tryz.func116,Tryz.ntmps116
  go_wp2_with (go_at_call 58;refine (zxf _ _).mono ?_;rintro e w' ⟨rfl,rfl⟩)
  go_ret
  exact ⟨zxc HE.out.symm,rfl⟩
 have t0 : (n == 0) = false:=by simpa using h0
 by_cases hp : 0 < n
 ·
  have HF:=hd_ (show fadeF n = n - 1 by rw [HE.out,if_pos hp])
  clear h0
  go_enter Tryz.func116,Tryz.ntmps116
  go_wp2_with (go_at_call 58;refine (zxf _ _).mono ?_;rintro e w' ⟨rfl,rfl⟩)
  go_ret
  exact ⟨zxc HF.out.symm,rfl⟩
 have HF:=hd_ (show fadeF n = n + 1 by rw [HE.out,if_neg hp,if_pos (by omega)])
 clear h0
 go_enter Tryz.func116,Tryz.ntmps116
 go_wp2_with (go_at_call 58;refine (zxf _ _).mono ?_;rintro e w' ⟨rfl,rfl⟩)
 go_ret
 exact ⟨zxc HF.out.symm,rfl⟩
theorem s_Standing (n : Int) (y : Bool) (w : World) : Calls Tryz.prog 157 #[.int .i64 n,.bool y] w fun e w' => e = .returned (.bool (standB n y))∧w = w':=by
 cases h : inB n (-100) 100
 ·
  have HE:=hd_ (show standB n y = false by unfold standB;rw [h];rfl)
  go_enter Tryz.func157,Tryz.ntmps157
  go_wp2_with (go_at_call 58;refine (zxf _ _).mono ?_;rintro e w' ⟨rfl,rfl⟩)
  go_ret
  exact ⟨zqf HE.out.symm,rfl⟩
 by_cases h2 : 20 ≤ n
 ·
  have HE:=hd_ (show standB n y = y by unfold standB;rw [h,decide_eq_true h2];rfl)
  go_enter Tryz.func157,Tryz.ntmps157
  go_wp2_with (go_at_call 58;refine (zxf _ _).mono ?_;rintro e w' ⟨rfl,rfl⟩)
  go_ret
  exact ⟨zqf HE.out.symm,rfl⟩
 have HE:=hd_ (show standB n y = false by unfold standB;rw [decide_eq_false h2,Bool.and_false];rfl)
 have t2 : decide (n ≥ 20) = false:=decide_eq_false (by omega)
 go_enter Tryz.func157,Tryz.ntmps157
 go_wp2_with (go_at_call 58;refine (zxf _ _).mono ?_;rintro e w' ⟨rfl,rfl⟩)
 go_ret
 exact ⟨zqf HE.out.symm,rfl⟩
theorem s_Allow (size few all sf s amt : Int) (good : Bool) (w : World) (b1 : -1000 ≤ sf∧sf ≤ 1000) (b2 : -1000 ≤ s∧s ≤ 1000) :
  Calls Tryz.prog 156 #[.int .i64 size,.int .i64 few,.int .i64 all,.int .i64 sf,.int .i64 s,.int .i64 amt,.bool good] w fun e w' => e = .returned (.int .i64 (allowF size few all sf s amt good))∧w = w':=by
 have none : ∀ h : (amtB size && amtB few && amtB all && amtB amt && decide (0 ≤ sf) && decide (0 ≤ s) && decide (few ≤ all) && decide (sf ≤ s)) = false,allowF size few all sf s amt good = 0:=fun h => by unfold allowF;rw [if_pos h]
 cases h1 : amtB size
 ·
  have HE:=hd_ (none (by rw [h1];rfl))
  clear none
  go_enter Tryz.func156,Tryz.ntmps156
  go_wp2_with (go_at_call 56;refine (zqx _ _).mono ?_;rintro e w' ⟨rfl,rfl⟩)
  go_ret
  exact ⟨zxc HE.out.symm,rfl⟩
 cases h2 : amtB few
 ·
  have HE:=hd_ (none (by rw [h2];simp))
  clear none
  go_enter Tryz.func156,Tryz.ntmps156
  go_wp2_with (go_at_call 56;refine (zqx _ _).mono ?_;rintro e w' ⟨rfl,rfl⟩)
  go_ret
  exact ⟨zxc HE.out.symm,rfl⟩
 cases h3 : amtB all
 ·
  have HE:=hd_ (none (by rw [h3];simp))
  clear none
  go_enter Tryz.func156,Tryz.ntmps156
  go_wp2_with (go_at_call 56;refine (zqx _ _).mono ?_;rintro e w' ⟨rfl,rfl⟩)
  go_ret
  exact ⟨zxc HE.out.symm,rfl⟩
 cases h4 : amtB amt
 ·
  have HE:=hd_ (none (by rw [h4];simp))
  clear none
  go_enter Tryz.func156,Tryz.ntmps156
  go_wp2_with (go_at_call 56;refine (zqx _ _).mono ?_;rintro e w' ⟨rfl,rfl⟩)
  go_ret
  exact ⟨zxc HE.out.symm,rfl⟩
 by_cases h5 : sf < 0
 ·
  have HE:=hd_ (none (by rw [decide_eq_false (show ¬ 0 ≤ sf by omega)];simp))
  clear none
  go_enter Tryz.func156,Tryz.ntmps156
  go_wp2_with (go_at_call 56;refine (zqx _ _).mono ?_;rintro e w' ⟨rfl,rfl⟩)
  go_ret
  exact ⟨zxc HE.out.symm,rfl⟩
 by_cases h6 : s < 0
 ·
  have HE:=hd_ (none (by rw [decide_eq_false (show ¬ 0 ≤ s by omega)];simp))
  clear none
  have t5 : decide (sf < 0) = false:=decide_eq_false h5
  go_enter Tryz.func156,Tryz.ntmps156
  go_wp2_with (go_at_call 56;refine (zqx _ _).mono ?_;rintro e w' ⟨rfl,rfl⟩)
  go_ret
  exact ⟨zxc HE.out.symm,rfl⟩
 have t5 : decide (sf < 0) = false:=decide_eq_false h5
 have t6 : decide (s < 0) = false:=decide_eq_false h6
 by_cases h7 : all < few
 ·
  have HE:=hd_ (none (by rw [decide_eq_false (show ¬ few ≤ all by omega)];simp))
  clear none
  go_enter Tryz.func156,Tryz.ntmps156
  go_wp2_with (go_at_call 56;refine (zqx _ _).mono ?_;rintro e w' ⟨rfl,rfl⟩)
  go_ret
  exact ⟨zxc HE.out.symm,rfl⟩
 have t7 : decide (few > all) = false:=decide_eq_false (by omega)
 by_cases h8 : s < sf
 ·
  have HE:=hd_ (none (by rw [decide_eq_false (show ¬ sf ≤ s by omega)];simp))
  clear none
  go_enter Tryz.func156,Tryz.ntmps156
  go_wp2_with (go_at_call 56;refine (zqx _ _).mono ?_;rintro e w' ⟨rfl,rfl⟩)
  go_ret
  exact ⟨zxc HE.out.symm,rfl⟩
 have t8 : decide (sf > s) = false:=decide_eq_false (by omega)
 clear none
 have HA:=hd_ (show allowF size few all sf s amt good = if 10 ≤ s ∨ size < all + amt then 0 else if sf < 5∧few + amt ≤ size / 2 then 1 else if good = true then 2 else 0 by
  unfold allowF
  rw [if_neg]
  rw [h1,h2,h3,h4,decide_eq_true (show 0 ≤ sf by omega),decide_eq_true (show 0 ≤ s by omega),decide_eq_true (show few ≤ all by omega),decide_eq_true (show sf ≤ s by omega)]
  simp)
 obtain ⟨x1,y1⟩:=zja.1 h1
 obtain ⟨x2,y2⟩:=zja.1 h2
 obtain ⟨x3,y3⟩:=zja.1 h3
 obtain ⟨x4,y4⟩:=zja.1 h4
 by_cases g1 : 10 ≤ s
 ·
  have HE:=hd_ (show allowF size few all sf s amt good = 0 by rw [HA.out,if_pos (Or.inl g1)])
  go_enter Tryz.func156,Tryz.ntmps156
  go_wp2_with (go_at_call 56;refine (zqx _ _).mono ?_;rintro e w' ⟨rfl,rfl⟩)
  go_ret
  exact ⟨zxc HE.out.symm,rfl⟩
 have t9 : decide (s ≥ 10) = false:=decide_eq_false (by omega)
 by_cases g2 : size < all + amt
 ·
  have HE:=hd_ (show allowF size few all sf s amt good = 0 by rw [HA.out,if_pos (Or.inr g2)])
  go_enter Tryz.func156,Tryz.ntmps156
  go_wp2_with (go_at_call 56;refine (zqx _ _).mono ?_;rintro e w' ⟨rfl,rfl⟩)
  go_ret
  exact ⟨zxc HE.out.symm,rfl⟩
 have u2 : decide (all + amt > size) = false:=decide_eq_false (by omega)
 have HB:=hd_ (show allowF size few all sf s amt good = if sf < 5∧few + amt ≤ size / 2 then 1 else if good = true then 2 else 0 by rw [HA.out,if_neg (by omega)])
 by_cases g3 : sf < 5
 ·
  by_cases g4 : few + amt ≤ size / 2
  ·
   have HE:=hd_ (show allowF size few all sf s amt good = 1 by rw [HB.out,if_pos ⟨g3,g4⟩])
   go_enter Tryz.func156,Tryz.ntmps156
   go_wp2_with (go_at_call 56;refine (zqx _ _).mono ?_;rintro e w' ⟨rfl,rfl⟩)
   go_ret
   exact ⟨zxc HE.out.symm,rfl⟩
  have u4 : decide (few + amt ≤ size / 2) = false:=decide_eq_false g4
  cases good
  ·
   have HE:=hd_ (show allowF size few all sf s amt false = 0 by rw [HB.out,if_neg (fun h => g4 h.2)];rfl)
   go_enter Tryz.func156,Tryz.ntmps156
   go_wp2_with (go_at_call 56;refine (zqx _ _).mono ?_;rintro e w' ⟨rfl,rfl⟩)
   go_ret
   exact ⟨zxc HE.out.symm,rfl⟩
  have HE:=hd_ (show allowF size few all sf s amt true = 2 by rw [HB.out,if_neg (fun h => g4 h.2)];rfl)
  go_enter Tryz.func156,Tryz.ntmps156
  go_wp2_with (go_at_call 56;refine (zqx _ _).mono ?_;rintro e w' ⟨rfl,rfl⟩)
  go_ret
  exact ⟨zxc HE.out.symm,rfl⟩
 have u3 : decide (sf < 5) = false:=decide_eq_false g3
 cases good
 ·
  have HE:=hd_ (show allowF size few all sf s amt false = 0 by rw [HB.out,if_neg (fun h => g3 h.1)];rfl)
  go_enter Tryz.func156,Tryz.ntmps156
  go_wp2_with (go_at_call 56;refine (zqx _ _).mono ?_;rintro e w' ⟨rfl,rfl⟩)
  go_ret
  exact ⟨zxc HE.out.symm,rfl⟩
 have HE:=hd_ (show allowF size few all sf s amt true = 2 by rw [HB.out,if_neg (fun h => g3 h.1)];rfl)
 go_enter Tryz.func156,Tryz.ntmps156
 go_wp2_with (go_at_call 56;refine (zqx _ _).mono ?_;rintro e w' ⟨rfl,rfl⟩)
 go_ret
 exact ⟨zxc HE.out.symm,rfl⟩
theorem zhl {ppm n : Int} (hn : 0 ≤ n∧n ≤ 1125899906842624) (hp : 0 ≤ ppm∧ppm ≤ 1000000) : divB n ppm 1000000 = true∧0 ≤ n * ppm / 1000000∧n * ppm / 1000000 ≤ 1125899906842624∧0 ≤ n * ppm % 1000000∧n * ppm % 1000000 < 1000000:=by
 have h1 : n * ppm ≤ 1125899906842624 * 1000000:=Int.mul_le_mul hn.2 hp.2 hp.1 (by omega)
 have h0 : 0 ≤ n * ppm:=Int.mul_nonneg hn.1 hp.1
 obtain ⟨m,hm⟩ : ∃ m,n * ppm = m:=⟨_,rfl⟩
 unfold divB
 rw [hm] at h1 h0 ⊢
 refine ⟨decide_eq_true (by omega),by omega,by omega,by omega,by omega⟩
theorem zhz {base ppm n : Int} (h : (amtB base && amtB n && inB ppm 0 1000000) = false) : feeOk base ppm n = false∧feeV base ppm n = 0:=by
 have h2 : feeOk base ppm n = false:=by unfold feeOk;rw [h];rfl
 exact ⟨h2,by unfold feeV;rw [h2];rfl⟩
set_option maxHeartbeats 1000000 in
theorem s_l01Fee (base ppm n : Int) (w : World) : Calls Tryz.prog 155 #[.int .i64 base,.int .i64 ppm,.int .i64 n,.bool true] w fun e w' => e = .returned (.tuple #[.int .i64 (feeV base ppm n),.bool (feeOk base ppm n)])∧w = w':=by
 cases h1 : amtB base
 ·
  have HE:=hd_ (zhz (base:=base) (ppm:=ppm) (n:=n) (by rw [h1];rfl))
  go_enter Tryz.func155,Tryz.ntmps155
  go_wp2_with (go_at_call 56;refine (zqx _ _).mono ?_;rintro e w' ⟨rfl,rfl⟩)
  go_ret2
  exact ⟨by rw [HE.out.1,HE.out.2];rfl,rfl⟩
 cases h2 : amtB n
 ·
  have HE:=hd_ (zhz (base:=base) (ppm:=ppm) (n:=n) (by rw [h2];simp))
  go_enter Tryz.func155,Tryz.ntmps155
  go_wp2_with (go_at_call 56;refine (zqx _ _).mono ?_;rintro e w' ⟨rfl,rfl⟩)
  go_ret2
  exact ⟨by rw [HE.out.1,HE.out.2];rfl,rfl⟩
 by_cases h3 : ppm < 0
 ·
  have HE:=hd_ (zhz (base:=base) (ppm:=ppm) (n:=n) (by rw [show inB ppm 0 1000000 = false by unfold inB;exact decide_eq_false (by omega)];simp))
  go_enter Tryz.func155,Tryz.ntmps155
  go_wp2_with (go_at_call 56;refine (zqx _ _).mono ?_;rintro e w' ⟨rfl,rfl⟩)
  go_ret2
  exact ⟨by rw [HE.out.1,HE.out.2];rfl,rfl⟩
 have t3 : decide (ppm < 0) = false:=decide_eq_false h3
 by_cases h4 : 1000000 < ppm
 ·
  have HE:=hd_ (zhz (base:=base) (ppm:=ppm) (n:=n) (by rw [show inB ppm 0 1000000 = false by unfold inB;exact decide_eq_false (by omega)];simp))
  go_enter Tryz.func155,Tryz.ntmps155
  go_wp2_with (go_at_call 56;refine (zqx _ _).mono ?_;rintro e w' ⟨rfl,rfl⟩)
  go_ret2
  exact ⟨by rw [HE.out.1,HE.out.2];rfl,rfl⟩
 have t4 : decide (ppm > 1000000) = false:=decide_eq_false (by omega)
 obtain ⟨a1,a2⟩:=zja.1 h1
 obtain ⟨n1,n2⟩:=zja.1 h2
 obtain ⟨d0,d1,d2,d3,d4⟩:=zhl (ppm:=ppm) (n:=n) ⟨n1,n2⟩ ⟨by omega,by omega⟩
 have HQ:=hd_ (show divQ n ppm 1000000 = n * ppm / 1000000 by unfold divQ;rw [if_pos d0])
 have HR:=hd_ (show divR n ppm 1000000 = n * ppm % 1000000 by unfold divR;rw [if_pos d0])
 have HD:=hd_ d0
 have HOk:=hd_ (show feeOk base ppm n = (amtB (feeQ ppm n) && amtB (base + feeQ ppm n)) by
  unfold feeOk
  rw [h1,h2,show inB ppm 0 1000000 = true from zjj.2 ⟨by omega,by omega⟩]
  rfl)
 have HV:=hd_ (show feeV base ppm n = if feeOk base ppm n = true then base + feeQ ppm n else 0 from rfl)
 have HQF:=hd_ (show feeQ ppm n = n * ppm / 1000000 + (if 0 < n * ppm % 1000000 then 1 else 0) from rfl)
 obtain ⟨q,hq⟩ : ∃ q,n * ppm / 1000000 = q:=⟨_,rfl⟩
 obtain ⟨r,hr⟩ : ∃ r,n * ppm % 1000000 = r:=⟨_,rfl⟩
 rw [hq] at d1 d2 HQ HQF
 rw [hr] at d3 d4 HR HQF
 clear d0 hq hr
 by_cases hr0 : 0 < r
 ·
  have HF:=hd_ (show feeQ ppm n = q + 1 by rw [HQF.out,if_pos hr0])
  go_enter Tryz.func155,Tryz.ntmps155
  go_wp2_with (go_at_call 56;refine (zqx _ _).mono ?_;rintro e w' ⟨rfl,rfl⟩)
  refine (s_l01Div n ppm 1000000 _ ⟨n1,n2⟩ ⟨by omega,by omega⟩ (by decide)).mono ?_
  rintro e w' ⟨rfl,rfl⟩
  rw [HQ.out,HR.out,HD.out]
  go_wp2_with fail
  cases hs : (amtB base && amtB (q + 1) && amtB (base + (q + 1)))
  ·
   have HO2:=hd_ (show feeOk base ppm n = false by rw [HOk.out,HF.out];simpa [h1] using hs)
   refine (zka _ _ _ hs).mono ?_
   rintro e w' ⟨rfl,rfl⟩
   go_wp2_with fail
   go_ret2
   exact ⟨by rw [HV.out,HO2.out];rfl,rfl⟩
  simp only [Bool.and_eq_true] at hs
  have HO2:=hd_ (show feeOk base ppm n = true by rw [HOk.out,HF.out,hs.1.2,hs.2];rfl)
  refine (zjv _ _ _ hs.1.1 hs.1.2 hs.2).mono ?_
  rintro e w' ⟨rfl,rfl⟩
  go_wp2_with fail
  go_ret2
  exact ⟨by rw [HV.out,HO2.out,if_pos rfl,HF.out];rfl,rfl⟩
 have HF:=hd_ (show feeQ ppm n = q by rw [HQF.out,if_neg hr0,Int.add_zero])
 have tr : decide (r > 0) = false:=decide_eq_false (by omega)
 go_enter Tryz.func155,Tryz.ntmps155
 go_wp2_with (go_at_call 56;refine (zqx _ _).mono ?_;rintro e w' ⟨rfl,rfl⟩)
 refine (s_l01Div n ppm 1000000 _ ⟨n1,n2⟩ ⟨by omega,by omega⟩ (by decide)).mono ?_
 rintro e w' ⟨rfl,rfl⟩
 rw [HQ.out,HR.out,HD.out]
 go_wp2_with fail
 cases hs : (amtB base && amtB q && amtB (base + q))
 ·
  have HO2:=hd_ (show feeOk base ppm n = false by rw [HOk.out,HF.out];simpa [h1] using hs)
  refine (zka _ _ _ hs).mono ?_
  rintro e w' ⟨rfl,rfl⟩
  go_wp2_with fail
  go_ret2
  exact ⟨by rw [HV.out,HO2.out];rfl,rfl⟩
 simp only [Bool.and_eq_true] at hs
 have HO2:=hd_ (show feeOk base ppm n = true by rw [HOk.out,HF.out,hs.1.2,hs.2];rfl)
 refine (zjv _ _ _ hs.1.1 hs.1.2 hs.2).mono ?_
 rintro e w' ⟨rfl,rfl⟩
 go_wp2_with fail
 go_ret2
 exact ⟨by rw [HV.out,HO2.out,if_pos rfl,HF.out];rfl,rfl⟩
theorem s_FeeUp (base ppm n : Int) (w : World) : Calls Tryz.prog 111 #[.int .i64 base,.int .i64 ppm,.int .i64 n] w fun e w' => e = .returned (.tuple #[.int .i64 (feeV base ppm n),.bool (feeOk base ppm n)])∧w = w':=by
 go_enter Tryz.func111,Tryz.ntmps111
 go_wp2_with fail
 refine (s_l01Fee _ _ _ _).mono ?_
 rintro e w' ⟨rfl,rfl⟩
 go_wp2_with fail
 go_ret2
 exact ⟨rfl,rfl⟩
end Go.Proofs.YtdbmkfmenfcbiaaGreat
namespace Go.Proofs.YtdbmkfmenfcbiaaGreat
open Go.RowKit Go.Deep
def wkTs (T : TypeId) : List TypeId:=[T,103,70,93,99]
def wkCells (b : Bk) (L : List Line) (code : Int) (A1 A2 A3 A4 : Option Addr) (p1 p2 p3 p4 : Nat) : Array Value :=
 #[.int .i64 b.t,.int .i64 b.n,.int .i64 b.w,.slice A1 b.cs.length p1,.slice A2 b.hs.length p2,.slice A3 b.os.length p3,.slice A4 L.length p4,.int .i64 code]
structure Wk (T : TypeId) (w0 w : World) (B X : Nat) (b : Bk) (L : List Line) (code : Int) (A1 A2 A3 A4 : Option Addr) (p1 p2 p3 p4 : Nat) : Prop where
 x : w.heap[X]? = some (.cells #[.int .i64 b.t,.int .i64 b.n,.int .i64 b.w,.slice A1 b.cs.length p1,.slice A2 b.hs.length p2,.slice A3 b.os.length p3,.slice A4 L.length p4,.int .i64 code] T (0,0))
 o : OwB w B b A1 A2 A3 p1 p2 p3
 l : Ow w B 99 3 (.slice A4 L.length p4) (L.map Line.cells)
 b : Below B w0 w
 f : Fr (wkTs T) w0 w
 bx : B ≤ X
section
variable {T : TypeId} {w0 w w' : World} {B X : Nat} {b : Bk} {L : List Line} {code : Int} {A1 A2 A3 A4 : Option Addr} {p1 p2 p3 p4 : Nat}
theorem Wk.lt (h : Wk T w0 w B X b L code A1 A2 A3 A4 p1 p2 p3 p4) : X < w.heap.size:=(gz_ h.x).1
theorem Wk.ble (h : Wk T w0 w B X b L code A1 A2 A3 A4 p1 p2 p3 p4) : B ≤ w.heap.size:=by have:=h.lt;have:=h.bx;omega
theorem Wk.below (h : Wk T w0 w B X b L code A1 A2 A3 A4 p1 p2 p3 p4) (hb : Below w.heap.size w w') : Wk T w0 w' B X b L code A1 A2 A3 A4 p1 p2 p3 p4 :=
 ⟨(hb.block X h.lt).trans h.x,h.o.below hb,h.l.below hb,h.b.trans (hb.mono h.ble),h.f.below hb,h.bx⟩
theorem Wk.alloc (h : Wk T w0 w B X b L code A1 A2 A3 A4 p1 p2 p3 p4) (o : Obj) : Wk T w0 (w.alloc o) B X b L code A1 A2 A3 A4 p1 p2 p3 p4:=h.below ((Below.refl _ _).alloc (Nat.le_refl _) o)
theorem Wk.drew (h : Wk T w0 w B X b L code A1 A2 A3 A4 p1 p2 p3 p4) : Wk T w0 w.drew B X b L code A1 A2 A3 A4 p1 p2 p3 p4:=⟨h.x,h.o.drew,h.l,h.b.drew,h.f.drew,h.bx⟩
theorem Wk.here (h : Wk T w0 w B X b L code A1 A2 A3 A4 p1 p2 p3 p4) : Wk T w w B X b L code A1 A2 A3 A4 p1 p2 p3 p4:=⟨h.x,h.o,h.l,Below.refl _ _,Fr.refl _ _,h.bx⟩
theorem Wk.trans (h0 : Wk T w0 w B X b L code A1 A2 A3 A4 p1 p2 p3 p4) {b' : Bk} {L' : List Line} {code' : Int} {C1 C2 C3 C4 : Option Addr} {q1 q2 q3 q4 : Nat} (h : Wk T w w' B X b' L' code' C1 C2 C3 C4 q1 q2 q3 q4) : Wk T w0 w' B X b' L' code' C1 C2 C3 C4 q1 q2 q3 q4 :=
 ⟨h.x,h.o,h.l,h0.b.trans h.b,h0.f.trans h.f,h.bx⟩
theorem Wk.box (h : Wk T w w' B X b L code A1 A2 A3 A4 p1 p2 p3 p4) {k : Nat} {cs : Array Value} {t : TypeId} (hk : w.heap[k]? = some (.cells cs t (0,0))) (ht : t ∉ wkTs T) : w'.heap[k]? = some (.cells cs t (0,0)):=h.f.box hk ht
theorem Wk.cell (h : Wk T w0 w B X b L code A1 A2 A3 A4 p1 p2 p3 p4) (i : Nat) : w.cell? ⟨X,i,none⟩ = (wkCells b L code A1 A2 A3 A4 p1 p2 p3 p4)[i]?:=zqc h.x i
theorem Wk.open_ (h : Wk T w0 w B X b L code A1 A2 A3 A4 p1 p2 p3 p4) : w.cell? ⟨X,0,none⟩ = some (.int .i64 b.t)∧w.cell? ⟨X,1,none⟩ = some (.int .i64 b.n)∧w.cell? ⟨X,2,none⟩ = some (.int .i64 b.w)∧w.cell? ⟨X,3,none⟩ = some (.slice A1 b.cs.length p1)∧w.cell? ⟨X,4,none⟩ = some (.slice A2 b.hs.length p2)∧w.cell? ⟨X,5,none⟩ = some (.slice A3 b.os.length p3)∧w.cell? ⟨X,6,none⟩ = some (.slice A4 L.length p4)∧w.cell? ⟨X,7,none⟩ = some (.int .i64 code)∧(∀ i,w.frozen? ⟨X,i,none⟩ = false)∧X < w.heap.size :=
 ⟨zqc h.x 0,zqc h.x 1,zqc h.x 2,zqc h.x 3,zqc h.x 4,zqc h.x 5,zqc h.x 6,zqc h.x 7,zqm h.x,h.lt⟩
theorem Wk.set (h : Wk T w0 w B X b L code A1 A2 A3 A4 p1 p2 p3 p4) (hT1 : 103 ≠ T) (hT2 : 70 ≠ T) (hT3 : 93 ≠ T) (hT4 : 99 ≠ T) (i : Nat) (u : Value) :
  OwB (w.setCell ⟨X,i,none⟩ u) B b A1 A2 A3 p1 p2 p3∧Ow (w.setCell ⟨X,i,none⟩ u) B 99 3 (.slice A4 L.length p4) (L.map Line.cells)∧Below B w0 (w.setCell ⟨X,i,none⟩ u)∧Fr (wkTs T) w0 (w.setCell ⟨X,i,none⟩ u) :=
 ⟨h.o.aside h.x hT1 hT2 hT3 u,h.l.aside h.x hT4 u,h.b.setCell h.bx u,h.f.set h.x (by simp [wkTs]) u⟩
theorem Wk.setCode (h : Wk T w0 w B X b L code A1 A2 A3 A4 p1 p2 p3 p4) (hT1 : 103 ≠ T) (hT2 : 70 ≠ T) (hT3 : 93 ≠ T) (hT4 : 99 ≠ T) (c : Int) : Wk T w0 (w.setCell ⟨X,7,none⟩ (.int .i64 c)) B X b L c A1 A2 A3 A4 p1 p2 p3 p4 :=
 ⟨zqa h.x,(h.set hT1 hT2 hT3 hT4 7 _).1,(h.set hT1 hT2 hT3 hT4 7 _).2.1,(h.set hT1 hT2 hT3 hT4 7 _).2.2.1,(h.set hT1 hT2 hT3 hT4 7 _).2.2.2,h.bx⟩
theorem Wk.setWallet (h : Wk T w0 w B X b L code A1 A2 A3 A4 p1 p2 p3 p4) (hT1 : 103 ≠ T) (hT2 : 70 ≠ T) (hT3 : 93 ≠ T) (hT4 : 99 ≠ T) (c : Int) : Wk T w0 (w.setCell ⟨X,2,none⟩ (.int .i64 c)) B X ⟨b.t,b.n,c,b.cs,b.hs,b.os⟩ L code A1 A2 A3 A4 p1 p2 p3 p4 :=
 ⟨zqa h.x,⟨(h.set hT1 hT2 hT3 hT4 2 _).1.c,(h.set hT1 hT2 hT3 hT4 2 _).1.h,(h.set hT1 hT2 hT3 hT4 2 _).1.o⟩,(h.set hT1 hT2 hT3 hT4 2 _).2.1,(h.set hT1 hT2 hT3 hT4 2 _).2.2.1,(h.set hT1 hT2 hT3 hT4 2 _).2.2.2,h.bx⟩
theorem Wk.setTick (h : Wk T w0 w B X b L code A1 A2 A3 A4 p1 p2 p3 p4) (hT1 : 103 ≠ T) (hT2 : 70 ≠ T) (hT3 : 93 ≠ T) (hT4 : 99 ≠ T) (c : Int) : Wk T w0 (w.setCell ⟨X,0,none⟩ (.int .i64 c)) B X ⟨c,b.n,b.w,b.cs,b.hs,b.os⟩ L code A1 A2 A3 A4 p1 p2 p3 p4 :=
 ⟨zqa h.x,⟨(h.set hT1 hT2 hT3 hT4 0 _).1.c,(h.set hT1 hT2 hT3 hT4 0 _).1.h,(h.set hT1 hT2 hT3 hT4 0 _).1.o⟩,(h.set hT1 hT2 hT3 hT4 0 _).2.1,(h.set hT1 hT2 hT3 hT4 0 _).2.2.1,(h.set hT1 hT2 hT3 hT4 0 _).2.2.2,h.bx⟩
theorem Wk.setNext (h : Wk T w0 w B X b L code A1 A2 A3 A4 p1 p2 p3 p4) (hT1 : 103 ≠ T) (hT2 : 70 ≠ T) (hT3 : 93 ≠ T) (hT4 : 99 ≠ T) (c : Int) : Wk T w0 (w.setCell ⟨X,1,none⟩ (.int .i64 c)) B X ⟨b.t,c,b.w,b.cs,b.hs,b.os⟩ L code A1 A2 A3 A4 p1 p2 p3 p4 :=
 ⟨zqa h.x,⟨(h.set hT1 hT2 hT3 hT4 1 _).1.c,(h.set hT1 hT2 hT3 hT4 1 _).1.h,(h.set hT1 hT2 hT3 hT4 1 _).1.o⟩,(h.set hT1 hT2 hT3 hT4 1 _).2.1,(h.set hT1 hT2 hT3 hT4 1 _).2.2.1,(h.set hT1 hT2 hT3 hT4 1 _).2.2.2,h.bx⟩
theorem Wk.setC (h : Wk T w0 w B X b L code A1 A2 A3 A4 p1 p2 p3 p4) (hT1 : 103 ≠ T) (hT2 : 70 ≠ T) (hT3 : 93 ≠ T) (hT4 : 99 ≠ T) {cs : List Chan} {C : Option Addr} {q : Nat} (hC : Ow w B 103 7 (.slice C cs.length q) (cs.map Chan.cells)) :
  Wk T w0 (w.setCell ⟨X,3,none⟩ (.slice C cs.length q)) B X ⟨b.t,b.n,b.w,cs,b.hs,b.os⟩ L code C A2 A3 A4 q p2 p3 p4 :=
 ⟨zqa h.x,⟨hC.aside h.x hT1 _,(h.set hT1 hT2 hT3 hT4 3 _).1.h,(h.set hT1 hT2 hT3 hT4 3 _).1.o⟩,(h.set hT1 hT2 hT3 hT4 3 _).2.1,(h.set hT1 hT2 hT3 hT4 3 _).2.2.1,(h.set hT1 hT2 hT3 hT4 3 _).2.2.2,h.bx⟩
theorem Wk.setH (h : Wk T w0 w B X b L code A1 A2 A3 A4 p1 p2 p3 p4) (hT1 : 103 ≠ T) (hT2 : 70 ≠ T) (hT3 : 93 ≠ T) (hT4 : 99 ≠ T) {hs : List Htlc} {C : Option Addr} {q : Nat} (hC : Ow w B 70 7 (.slice C hs.length q) (hs.map Htlc.cells)) :
  Wk T w0 (w.setCell ⟨X,4,none⟩ (.slice C hs.length q)) B X ⟨b.t,b.n,b.w,b.cs,hs,b.os⟩ L code A1 C A3 A4 p1 q p3 p4 :=
 ⟨zqa h.x,⟨(h.set hT1 hT2 hT3 hT4 4 _).1.c,hC.aside h.x hT2 _,(h.set hT1 hT2 hT3 hT4 4 _).1.o⟩,(h.set hT1 hT2 hT3 hT4 4 _).2.1,(h.set hT1 hT2 hT3 hT4 4 _).2.2.1,(h.set hT1 hT2 hT3 hT4 4 _).2.2.2,h.bx⟩
theorem Wk.setO (h : Wk T w0 w B X b L code A1 A2 A3 A4 p1 p2 p3 p4) (hT1 : 103 ≠ T) (hT2 : 70 ≠ T) (hT3 : 93 ≠ T) (hT4 : 99 ≠ T) {os : List Circle} {C : Option Addr} {q : Nat} (hC : Ow w B 93 5 (.slice C os.length q) (os.map Circle.cells)) :
  Wk T w0 (w.setCell ⟨X,5,none⟩ (.slice C os.length q)) B X ⟨b.t,b.n,b.w,b.cs,b.hs,os⟩ L code A1 A2 C A4 p1 p2 q p4 :=
 ⟨zqa h.x,⟨(h.set hT1 hT2 hT3 hT4 5 _).1.c,(h.set hT1 hT2 hT3 hT4 5 _).1.h,hC.aside h.x hT3 _⟩,(h.set hT1 hT2 hT3 hT4 5 _).2.1,(h.set hT1 hT2 hT3 hT4 5 _).2.2.1,(h.set hT1 hT2 hT3 hT4 5 _).2.2.2,h.bx⟩
theorem Wk.setL (h : Wk T w0 w B X b L code A1 A2 A3 A4 p1 p2 p3 p4) (hT1 : 103 ≠ T) (hT2 : 70 ≠ T) (hT3 : 93 ≠ T) (hT4 : 99 ≠ T) {L' : List Line} {C : Option Addr} {q : Nat} (hC : Ow w B 99 3 (.slice C L'.length q) (L'.map Line.cells)) :
  Wk T w0 (w.setCell ⟨X,6,none⟩ (.slice C L'.length q)) B X b L' code A1 A2 A3 C p1 p2 p3 q :=
 ⟨zqa h.x,(h.set hT1 hT2 hT3 hT4 6 _).1,hC.aside h.x hT4 _,(h.set hT1 hT2 hT3 hT4 6 _).2.2.1,(h.set hT1 hT2 hT3 hT4 6 _).2.2.2,h.bx⟩
end
theorem wkd_ {T : TypeId} {w0 w w' : World} {B X : Nat} {b : Bk} {L : List Line} {code : Int} {A1 A2 A3 A4 : Option Addr} {p1 p2 p3 p4 : Nat} (hw : w.drew = w') (h : Hid (Wk T w0 w B X b L code A1 A2 A3 A4 p1 p2 p3 p4)) : Hid (Wk T w0 w' B X b L code A1 A2 A3 A4 p1 p2 p3 p4):=hw ▸ h.out.drew
theorem wka_ {T : TypeId} {w0 w w' : World} {o : Obj} {B X : Nat} {b : Bk} {L : List Line} {code : Int} {A1 A2 A3 A4 : Option Addr} {p1 p2 p3 p4 : Nat} (hw : w' = w.alloc o) (h : Hid (Wk T w0 w B X b L code A1 A2 A3 A4 p1 p2 p3 p4)) : Hid (Wk T w0 w' B X b L code A1 A2 A3 A4 p1 p2 p3 p4):=hw ▸ h.out.alloc o
set_option maxRecDepth 100000 in
set_option maxHeartbeats 4000000 in
theorem s_EventOk_4 (e : Event) (w : World) (k1 : 1 ≤ e.Kind) (k2 : e.Kind ≤ 11) (hk : e.Kind = 4) :
  Calls Tryz.prog 62 #[.agg #[.int .i64 e.Kind,.int .i64 e.Key,.int .i64 e.Ch,.int .i64 e.To,.int .i64 e.Amt,.int .i64 e.Fee,.bool e.Yes]] w fun e' w' => e' = .returned (.bool (evB e))∧Below w.heap.size w w':=by
 obtain ⟨h0,h1,h2,h3,h4,h5,hr,hv⟩:=evB_in k1 k2
 have HR:=hd_ hr
 rw [if_pos hk,if_pos hk] at hv
 have HE:=hd_ hv
 clear hv hr
 have t4 : (e.Kind == 4) = true:=by rw [beq_iff_eq];exact hk
 have d1 : decide (e.Kind < 1) = false:=decide_eq_false (by omega)
 have d2 : decide (e.Kind > 11) = false:=decide_eq_false (by omega)
 clear hk
 obtain ⟨E,hE⟩ : ∃ E,E = w.heap.size:=⟨_,rfl⟩
 go_enter Tryz.func62,Tryz.ntmps62
 go_wp2_with fail
 refine (zpn e.Kind _ k1 k2).mono ?_
 rintro e' w1 ⟨rfl,rfl⟩
 rw [HR.out]
 go_wp2_with fail
 try rw [← hE]
 refine zkw (fun w1 hw => ?_)
 obtain ⟨G,hG⟩ : ∃ G,G = E + 1:=⟨_,rfl⟩
 try rw [← hG]
 have HE1 : Hid (Hx w1 E (evC e) 64):=hd_ (by rw [hw,hE];exact hp_)
 have HH1 : Hid (Hx w1 G (qabbbbbb h0 h1 h2 h3 h4 h5) 4):=hd_ (by rw [hw,hG,hE];exact zqi (by simp))
 have HB1 : Hid (Below w.heap.size w w1):=hd_ (by rw [hw];exact bl_)
 clear hw hE hG t4 d1 d2
 have jE:=bd7_ HE1
 have H:=bd6_ HH1
 refine zql (fun w' => kqE w' E e (kqbbbbbb_ w' G h0 h1 h2 h3 h4 h5)) [yF 0 20,yF 1 21,yF 2 22,yF 3 23,yF 4 24,yT 5 25,yF 6 26,yF 7 27,yH 8 28 27,yH 9 29 27,yH 10 30 27,yH 11 31 27,yH 12 32 27,(13,some 33,true,some (27,false)),yH 14 34 27,yF 15 35,yF 16 36,yH 17 37 36,yH 18 38 36,yH 19 39 36,yH 20 40 36,yH 21 41 36,(22,some 42,true,some (36,false)),yH 23 43 36,yF 24 44,yF 25 45,yH 26 46 45,yH 27 47 45,yH 28 48 45,yH 29 49 45,yG 30 50 49,yG 31 51 49,yG 32 52 49,yG 33 53 49,yG 34 54 49,yH 35 55 45,yF 36 56] (by kernel_rfl) (by kernel_rfl) (by kernel_rfl) (q7_ jE H) (fun hH => ?_)
 obtain ⟨w2,hwd⟩ : ∃ wd,w1.drew = wd:=⟨_,rfl⟩
 have HE2:=hr_ hwd HE1
 have HH2:=hr_ hwd HH1
 have HB2:=bld_ hwd HB1
 clear jE H
 rw [hwd] at hH ⊢
 clear hwd
 have jE:=bd7_ HE2
 have H:=bd6_ HH2
 refine tk_ ?_
 refine ss_ (fun K hK => ?_)
 go_simp
 refine (zxv _ _ _ _ _).mono ?_
 rintro e' wz ⟨rfl,rfl⟩
 go_simp
 refine hK.out _ _ (q7_ jE H) (fun hH => ?_)
 clear hK K
 refine tk_ ?_
 cases g0 : fldB h0 e.Key 1 1000000
 ·
  refine tk_ ?_
  refine Sq.done (NoPanic.normal ?_)
  go_wp2_with fail
  go_ret
  exact ⟨zqf (by rw [HE.out];simp [evS,g0]),HB2.out⟩
 refine tk_ ?_
 refine ss_ (fun K hK => ?_)
 go_simp
 refine (zxv _ _ _ _ _).mono ?_
 rintro e' wz ⟨rfl,rfl⟩
 go_simp
 refine hK.out _ _ (q7_ jE H) (fun hH => ?_)
 clear hK K
 refine tk_ ?_
 cases g1 : fldB h1 e.Ch 1 99
 ·
  refine tk_ ?_
  refine Sq.done (NoPanic.normal ?_)
  go_wp2_with fail
  go_ret
  exact ⟨zqf (by rw [HE.out];simp [evS,g0,g1]),HB2.out⟩
 refine tk_ ?_
 refine ss_ (fun K hK => ?_)
 go_simp
 refine (zxv _ _ _ _ _).mono ?_
 rintro e' wz ⟨rfl,rfl⟩
 go_simp
 refine hK.out _ _ (q7_ jE H) (fun hH => ?_)
 clear hK K
 refine tk_ ?_
 cases g2 : fldB h2 e.To 1 99
 ·
  refine tk_ ?_
  refine Sq.done (NoPanic.normal ?_)
  go_wp2_with fail
  go_ret
  exact ⟨zqf (by rw [HE.out];simp [evS,g0,g1,g2]),HB2.out⟩
 cases h2
 ·
  refine tk_ ?_
  refine Sq.done (NoPanic.normal ?_)
  go_wp2_with fail
  refine zql (fun w' => kqE w' E e (kqbbbbbb_ w' G h0 h1 false h3 h4 h5)) [yF 0 57,yF 1 58,yF 2 59,yF 3 60,yF 4 61,yF 5 62,yT 6 63,yF 7 64,yG 8 65 64,yG 9 66 64,yG 10 67 64,yG 11 68 64,yG 12 69 64,yG 13 70 64,(14,some 71,true,some (64,true)),yF 15 72,yF 16 73,yG 17 74 73,yG 18 75 73,yG 19 76 73,yG 20 77 73,yH 21 78 77,yH 22 79 77,yH 23 80 77,yG 24 81 73,yF 25 82,yF 26 2] (by kernel_rfl) (by kernel_rfl) (by kernel_rfl) (q7_ jE H) (fun hH => ?_)
  obtain ⟨w3,hwd⟩ : ∃ wd,w2.drew = wd:=⟨_,rfl⟩
  have HE3:=hr_ hwd HE2
  have HH3:=hr_ hwd HH2
  have HB3:=bld_ hwd HB2
  clear jE H
  rw [hwd] at hH ⊢
  clear hwd
  have jE:=bd7_ HE3
  have H:=bd6_ HH3
  refine tk_ ?_
  refine ss_ (fun K hK => ?_)
  go_simp
  refine (zxv _ _ _ _ _).mono ?_
  rintro e' wz ⟨rfl,rfl⟩
  go_simp
  refine hK.out _ _ (q7_ jE H) (fun hH => ?_)
  clear hK K
  refine tk_ ?_
  cases g3 : fldB h3 e.Amt 0 1125899906842624
  ·
   refine tk_ ?_
   refine Sq.done (NoPanic.normal ?_)
   go_wp2_with fail
   go_ret
   exact ⟨zqf (by rw [HE.out];simp [evS,g0,g1,g2,g3]),HB3.out⟩
  refine tk_ ?_
  refine ss_ (fun K hK => ?_)
  go_simp
  refine (zxv _ _ _ _ _).mono ?_
  rintro e' wz ⟨rfl,rfl⟩
  go_simp
  refine hK.out _ _ (q7_ jE H) (fun hH => ?_)
  clear hK K
  refine tk_ ?_
  cases g4 : fldB h4 e.Fee 0 1000000
  ·
   refine tk_ ?_
   refine Sq.done (NoPanic.normal ?_)
   go_wp2_with fail
   go_ret
   exact ⟨zqf (by rw [HE.out];simp [evS,g0,g1,g2,g3,g4]),HB3.out⟩
  cases h5
  ·
   refine tk_ ?_
   refine Sq.done (NoPanic.normal ?_)
   go_wp2_with fail
   go_ret
   exact ⟨zqf (by rw [HE.out];simp [evS,g0,g1,g2,g3,g4]),HB3.out⟩
  refine tk_ ?_
  refine Sq.done (NoPanic.normal ?_)
  go_wp2_with fail
  go_ret
  exact ⟨zqf (by rw [HE.out];simp [evS,g0,g1,g2,g3,g4]),HB3.out⟩
 cases tq : (e.Ch == e.To)
 rotate_left
 ·
  refine tk_ ?_
  refine Sq.done (NoPanic.normal ?_)
  go_wp2_with fail
  go_ret
  exact ⟨zqf (by rw [HE.out];simp [evS,g0,g1,g2,tq]),HB2.out⟩
 refine tk_ ?_
 refine Sq.done (NoPanic.normal ?_)
 go_wp2_with fail
 refine zql (fun w' => kqE w' E e (kqbbbbbb_ w' G h0 h1 true h3 h4 h5)) [yF 0 57,yF 1 58,yF 2 59,yF 3 60,yF 4 61,yF 5 62,yT 6 63,yF 7 64,yG 8 65 64,yG 9 66 64,yG 10 67 64,yG 11 68 64,yG 12 69 64,yG 13 70 64,(14,some 71,true,some (64,true)),yF 15 72,yF 16 73,yG 17 74 73,yG 18 75 73,yG 19 76 73,yG 20 77 73,yH 21 78 77,yH 22 79 77,yH 23 80 77,yG 24 81 73,yF 25 82,yF 26 2] (by kernel_rfl) (by kernel_rfl) (by kernel_rfl) (q7_ jE H) (fun hH => ?_)
 obtain ⟨w3,hwd⟩ : ∃ wd,w2.drew = wd:=⟨_,rfl⟩
 have HE3:=hr_ hwd HE2
 have HH3:=hr_ hwd HH2
 have HB3:=bld_ hwd HB2
 clear jE H
 rw [hwd] at hH ⊢
 clear hwd
 have jE:=bd7_ HE3
 have H:=bd6_ HH3
 refine tk_ ?_
 refine ss_ (fun K hK => ?_)
 go_simp
 refine (zxv _ _ _ _ _).mono ?_
 rintro e' wz ⟨rfl,rfl⟩
 go_simp
 refine hK.out _ _ (q7_ jE H) (fun hH => ?_)
 clear hK K
 refine tk_ ?_
 cases g3 : fldB h3 e.Amt 0 1125899906842624
 ·
  refine tk_ ?_
  refine Sq.done (NoPanic.normal ?_)
  go_wp2_with fail
  go_ret
  exact ⟨zqf (by rw [HE.out];simp [evS,g0,g1,g2,tq,g3]),HB3.out⟩
 refine tk_ ?_
 refine ss_ (fun K hK => ?_)
 go_simp
 refine (zxv _ _ _ _ _).mono ?_
 rintro e' wz ⟨rfl,rfl⟩
 go_simp
 refine hK.out _ _ (q7_ jE H) (fun hH => ?_)
 clear hK K
 refine tk_ ?_
 cases g4 : fldB h4 e.Fee 0 1000000
 ·
  refine tk_ ?_
  refine Sq.done (NoPanic.normal ?_)
  go_wp2_with fail
  go_ret
  exact ⟨zqf (by rw [HE.out];simp [evS,g0,g1,g2,tq,g3,g4]),HB3.out⟩
 cases h5
 ·
  refine tk_ ?_
  refine Sq.done (NoPanic.normal ?_)
  go_wp2_with fail
  go_ret
  exact ⟨zqf (by rw [HE.out];simp [evS,g0,g1,g2,tq,g3,g4]),HB3.out⟩
 refine tk_ ?_
 refine Sq.done (NoPanic.normal ?_)
 go_wp2_with fail
 go_ret
 exact ⟨zqf (by rw [HE.out];simp [evS,g0,g1,g2,tq,g3,g4]),HB3.out⟩
set_option maxRecDepth 100000 in
set_option maxHeartbeats 4000000 in
theorem s_EventOk_x (e : Event) (w : World) (k1 : 1 ≤ e.Kind) (k2 : e.Kind ≤ 11) (hk : ¬ e.Kind = 4) :
  Calls Tryz.prog 62 #[.agg #[.int .i64 e.Kind,.int .i64 e.Key,.int .i64 e.Ch,.int .i64 e.To,.int .i64 e.Amt,.int .i64 e.Fee,.bool e.Yes]] w fun e' w' => e' = .returned (.bool (evB e))∧Below w.heap.size w w':=by
 obtain ⟨h0,h1,h2,h3,h4,h5,hr,hv⟩:=evB_in k1 k2
 have HR:=hd_ hr
 rw [if_neg hk,if_neg hk] at hv
 have HE:=hd_ hv
 clear hv hr
 have t4 : (e.Kind == 4) = false:=by rw [beq_eq_false_iff_ne];exact hk
 have d1 : decide (e.Kind < 1) = false:=decide_eq_false (by omega)
 have d2 : decide (e.Kind > 11) = false:=decide_eq_false (by omega)
 clear hk
 obtain ⟨E,hE⟩ : ∃ E,E = w.heap.size:=⟨_,rfl⟩
 go_enter Tryz.func62,Tryz.ntmps62
 go_wp2_with fail
 refine (zpn e.Kind _ k1 k2).mono ?_
 rintro e' w1 ⟨rfl,rfl⟩
 rw [HR.out]
 go_wp2_with fail
 try rw [← hE]
 refine zkw (fun w1 hw => ?_)
 obtain ⟨G,hG⟩ : ∃ G,G = E + 1:=⟨_,rfl⟩
 try rw [← hG]
 have HE1 : Hid (Hx w1 E (evC e) 64):=hd_ (by rw [hw,hE];exact hp_)
 have HH1 : Hid (Hx w1 G (qabbbbbb h0 h1 h2 h3 h4 h5) 4):=hd_ (by rw [hw,hG,hE];exact zqi (by simp))
 have HB1 : Hid (Below w.heap.size w w1):=hd_ (by rw [hw];exact bl_)
 clear hw hE hG t4 d1 d2
 have jE:=bd7_ HE1
 have H:=bd6_ HH1
 refine zql (fun w' => kqE w' E e (kqbbbbbb_ w' G h0 h1 h2 h3 h4 h5)) [yF 0 20,yF 1 21,yF 2 22,yF 3 23,yF 4 24,yT 5 25,yF 6 26,yF 7 27,yH 8 28 27,yH 9 29 27,yH 10 30 27,yH 11 31 27,yH 12 32 27,(13,some 33,true,some (27,false)),yH 14 34 27,yF 15 35,yF 16 36,yH 17 37 36,yH 18 38 36,yH 19 39 36,yH 20 40 36,yH 21 41 36,(22,some 42,true,some (36,false)),yH 23 43 36,yF 24 44,yF 25 45,yH 26 46 45,yH 27 47 45,yH 28 48 45,yH 29 49 45,yG 30 50 49,yG 31 51 49,yG 32 52 49,yG 33 53 49,yG 34 54 49,yH 35 55 45,yF 36 56] (by kernel_rfl) (by kernel_rfl) (by kernel_rfl) (q7_ jE H) (fun hH => ?_)
 obtain ⟨w2,hwd⟩ : ∃ wd,w1.drew = wd:=⟨_,rfl⟩
 have HE2:=hr_ hwd HE1
 have HH2:=hr_ hwd HH1
 have HB2:=bld_ hwd HB1
 clear jE H
 rw [hwd] at hH ⊢
 clear hwd
 have jE:=bd7_ HE2
 have H:=bd6_ HH2
 refine tk_ ?_
 refine ss_ (fun K hK => ?_)
 go_simp
 refine (zxv _ _ _ _ _).mono ?_
 rintro e' wz ⟨rfl,rfl⟩
 go_simp
 refine hK.out _ _ (q7_ jE H) (fun hH => ?_)
 clear hK K
 refine tk_ ?_
 cases g0 : fldB h0 e.Key 1 1000000
 ·
  refine tk_ ?_
  refine Sq.done (NoPanic.normal ?_)
  go_wp2_with fail
  go_ret
  exact ⟨zqf (by rw [HE.out];simp [evS,g0]),HB2.out⟩
 refine tk_ ?_
 refine ss_ (fun K hK => ?_)
 go_simp
 refine (zxv _ _ _ _ _).mono ?_
 rintro e' wz ⟨rfl,rfl⟩
 go_simp
 refine hK.out _ _ (q7_ jE H) (fun hH => ?_)
 clear hK K
 refine tk_ ?_
 cases g1 : fldB h1 e.Ch 1 99
 ·
  refine tk_ ?_
  refine Sq.done (NoPanic.normal ?_)
  go_wp2_with fail
  go_ret
  exact ⟨zqf (by rw [HE.out];simp [evS,g0,g1]),HB2.out⟩
 refine tk_ ?_
 refine ss_ (fun K hK => ?_)
 go_simp
 refine (zxv _ _ _ _ _).mono ?_
 rintro e' wz ⟨rfl,rfl⟩
 go_simp
 refine hK.out _ _ (q7_ jE H) (fun hH => ?_)
 clear hK K
 refine tk_ ?_
 cases g2 : fldB h2 e.To 1 99
 ·
  refine tk_ ?_
  refine Sq.done (NoPanic.normal ?_)
  go_wp2_with fail
  go_ret
  exact ⟨zqf (by rw [HE.out];simp [evS,g0,g1,g2]),HB2.out⟩
 cases h2
 ·
  refine tk_ ?_
  refine Sq.done (NoPanic.normal ?_)
  go_wp2_with fail
  refine zql (fun w' => kqE w' E e (kqbbbbbb_ w' G h0 h1 false h3 h4 h5)) [yF 0 57,yF 1 58,yF 2 59,yF 3 60,yF 4 61,yF 5 62,yT 6 63,yF 7 64,yG 8 65 64,yG 9 66 64,yG 10 67 64,yG 11 68 64,yG 12 69 64,yG 13 70 64,(14,some 71,true,some (64,true)),yF 15 72,yF 16 73,yG 17 74 73,yG 18 75 73,yG 19 76 73,yG 20 77 73,yH 21 78 77,yH 22 79 77,yH 23 80 77,yG 24 81 73,yF 25 82,yF 26 2] (by kernel_rfl) (by kernel_rfl) (by kernel_rfl) (q7_ jE H) (fun hH => ?_)
  obtain ⟨w3,hwd⟩ : ∃ wd,w2.drew = wd:=⟨_,rfl⟩
  have HE3:=hr_ hwd HE2
  have HH3:=hr_ hwd HH2
  have HB3:=bld_ hwd HB2
  clear jE H
  rw [hwd] at hH ⊢
  clear hwd
  have jE:=bd7_ HE3
  have H:=bd6_ HH3
  refine tk_ ?_
  refine ss_ (fun K hK => ?_)
  go_simp
  refine (zxv _ _ _ _ _).mono ?_
  rintro e' wz ⟨rfl,rfl⟩
  go_simp
  refine hK.out _ _ (q7_ jE H) (fun hH => ?_)
  clear hK K
  refine tk_ ?_
  cases g3 : fldB h3 e.Amt 1 1125899906842624
  ·
   refine tk_ ?_
   refine Sq.done (NoPanic.normal ?_)
   go_wp2_with fail
   go_ret
   exact ⟨zqf (by rw [HE.out];simp [evS,g0,g1,g2,g3]),HB3.out⟩
  refine tk_ ?_
  refine ss_ (fun K hK => ?_)
  go_simp
  refine (zxv _ _ _ _ _).mono ?_
  rintro e' wz ⟨rfl,rfl⟩
  go_simp
  refine hK.out _ _ (q7_ jE H) (fun hH => ?_)
  clear hK K
  refine tk_ ?_
  cases g4 : fldB h4 e.Fee 0 1125899906842624
  ·
   refine tk_ ?_
   refine Sq.done (NoPanic.normal ?_)
   go_wp2_with fail
   go_ret
   exact ⟨zqf (by rw [HE.out];simp [evS,g0,g1,g2,g3,g4]),HB3.out⟩
  cases h5
  ·
   refine tk_ ?_
   refine Sq.done (NoPanic.normal ?_)
   go_wp2_with fail
   go_ret
   exact ⟨zqf (by rw [HE.out];simp [evS,g0,g1,g2,g3,g4]),HB3.out⟩
  refine tk_ ?_
  refine Sq.done (NoPanic.normal ?_)
  go_wp2_with fail
  go_ret
  exact ⟨zqf (by rw [HE.out];simp [evS,g0,g1,g2,g3,g4]),HB3.out⟩
 cases tq : (e.Ch == e.To)
 rotate_left
 ·
  refine tk_ ?_
  refine Sq.done (NoPanic.normal ?_)
  go_wp2_with fail
  go_ret
  exact ⟨zqf (by rw [HE.out];simp [evS,g0,g1,g2,tq]),HB2.out⟩
 refine tk_ ?_
 refine Sq.done (NoPanic.normal ?_)
 go_wp2_with fail
 refine zql (fun w' => kqE w' E e (kqbbbbbb_ w' G h0 h1 true h3 h4 h5)) [yF 0 57,yF 1 58,yF 2 59,yF 3 60,yF 4 61,yF 5 62,yT 6 63,yF 7 64,yG 8 65 64,yG 9 66 64,yG 10 67 64,yG 11 68 64,yG 12 69 64,yG 13 70 64,(14,some 71,true,some (64,true)),yF 15 72,yF 16 73,yG 17 74 73,yG 18 75 73,yG 19 76 73,yG 20 77 73,yH 21 78 77,yH 22 79 77,yH 23 80 77,yG 24 81 73,yF 25 82,yF 26 2] (by kernel_rfl) (by kernel_rfl) (by kernel_rfl) (q7_ jE H) (fun hH => ?_)
 obtain ⟨w3,hwd⟩ : ∃ wd,w2.drew = wd:=⟨_,rfl⟩
 have HE3:=hr_ hwd HE2
 have HH3:=hr_ hwd HH2
 have HB3:=bld_ hwd HB2
 clear jE H
 rw [hwd] at hH ⊢
 clear hwd
 have jE:=bd7_ HE3
 have H:=bd6_ HH3
 refine tk_ ?_
 refine ss_ (fun K hK => ?_)
 go_simp
 refine (zxv _ _ _ _ _).mono ?_
 rintro e' wz ⟨rfl,rfl⟩
 go_simp
 refine hK.out _ _ (q7_ jE H) (fun hH => ?_)
 clear hK K
 refine tk_ ?_
 cases g3 : fldB h3 e.Amt 1 1125899906842624
 ·
  refine tk_ ?_
  refine Sq.done (NoPanic.normal ?_)
  go_wp2_with fail
  go_ret
  exact ⟨zqf (by rw [HE.out];simp [evS,g0,g1,g2,tq,g3]),HB3.out⟩
 refine tk_ ?_
 refine ss_ (fun K hK => ?_)
 go_simp
 refine (zxv _ _ _ _ _).mono ?_
 rintro e' wz ⟨rfl,rfl⟩
 go_simp
 refine hK.out _ _ (q7_ jE H) (fun hH => ?_)
 clear hK K
 refine tk_ ?_
 cases g4 : fldB h4 e.Fee 0 1125899906842624
 ·
  refine tk_ ?_
  refine Sq.done (NoPanic.normal ?_)
  go_wp2_with fail
  go_ret
  exact ⟨zqf (by rw [HE.out];simp [evS,g0,g1,g2,tq,g3,g4]),HB3.out⟩
 cases h5
 ·
  refine tk_ ?_
  refine Sq.done (NoPanic.normal ?_)
  go_wp2_with fail
  go_ret
  exact ⟨zqf (by rw [HE.out];simp [evS,g0,g1,g2,tq,g3,g4]),HB3.out⟩
 refine tk_ ?_
 refine Sq.done (NoPanic.normal ?_)
 go_wp2_with fail
 go_ret
 exact ⟨zqf (by rw [HE.out];simp [evS,g0,g1,g2,tq,g3,g4]),HB3.out⟩
set_option maxRecDepth 100000 in
theorem zsi (e : Event) (w : World) :
  Calls Tryz.prog 62 #[.agg #[.int .i64 e.Kind,.int .i64 e.Key,.int .i64 e.Ch,.int .i64 e.To,.int .i64 e.Amt,.int .i64 e.Fee,.bool e.Yes]] w fun e' w' => e' = .returned (.bool (evB e))∧Below w.heap.size w w':=by
 by_cases k1 : e.Kind < 1
 ·
  have HE:=hd_ (evB_out (e:=e) (Or.inl k1))
  go_enter Tryz.func62,Tryz.ntmps62
  go_wp2_with fail
  go_ret
  exact ⟨zqf HE.out.symm,bl_⟩
 by_cases k2 : 11 < e.Kind
 ·
  have HE:=hd_ (evB_out (e:=e) (Or.inr k2))
  have d1 : decide (e.Kind < 1) = false:=decide_eq_false (by omega)
  go_enter Tryz.func62,Tryz.ntmps62
  go_wp2_with fail
  go_ret
  exact ⟨zqf HE.out.symm,bl_⟩
 by_cases hk : e.Kind = 4
 ·
  exact s_EventOk_4 e w (by omega) (by omega) hk
 exact s_EventOk_x e w (by omega) (by omega) hk
end Go.Proofs.YtdbmkfmenfcbiaaGreat

/- Time goes on: the program's walk. -/
import Derived.Test.YtdbmkfmenfcbiaaGreatRows
import Derived.Test.YtdbmkfmenfcbiaaGreatNISe
import Derived.Test.YtdbmkfmenfcbiaaGreatNM3
namespace Go.Proofs.YtdbmkfmenfcbiaaGreat
open Go.RowKit Go.Deep
theorem zsc {h : Htlc} (h1 : h.Age ≤ 1125899906842624) : olderH h = { h with Age:=min (h.Age + 1) 1125899906842624 }:=by
 unfold olderH
 split
 ·
  rw [show min (h.Age + 1) 1125899906842624 = h.Age + 1 by omega]
 rw [show min (h.Age + 1) 1125899906842624 = h.Age by omega]
set_option maxRecDepth 100000 in
set_option maxHeartbeats 4000000 in
theorem i_tick (w0 w : World) (B X : Nat) (b : Bk) (A1 A2 A3 A4 : Option Addr) (p1 p2 p3 p4 : Nat) (hF : BookFacts b.t b.n b.w b.cs b.hs b.os) (ht : b.t ≠ 1125899906842624) (h : Wk 136 w0 w B X b [] 0 A1 A2 A3 A4 p1 p2 p3 p4) :
  Calls Tryz.prog 94 #[.pointer (some ⟨X,0,none⟩)] w (Acts 136 w B X (tickB b)):=by
 have H:=hd_ h.here
 clear h
 obtain ⟨m1,m2⟩:=hF.t
 have hcl:=hF.cl
 have h60:=hF.small.hl
 have HAge : Hid (∀ k,(hk : k < b.hs.length) → 0 ≤ b.hs[k].Age∧b.hs[k].Age ≤ 1125899906842624):=hd_ (fun k hk => by have hp:=hF.parts;simp only [partsB,Bool.and_eq_true] at hp;have h1:=List.all_eq_true.1 hp.1.1 _ (List.getElem_mem hk);simp only [htlcB,Bool.and_eq_true,zja] at h1;exact h1.2)
 clear hF
 have m3 : b.t < 1125899906842624:=by omega
 have hne:=hd_ ht
 clear ht
 cases t5 : ((b.t + 1) % 5 == 0)
 ·
  have HO:=hd_ (tickB_no (b:=b) hne.out (beq_eq_false_iff_ne.1 t5))
  have HW_w:=H
  clear H
  obtain ⟨a,af,az⟩:=opc_ HW_w.out.open_
  go_enter Tryz.func94,Tryz.ntmps94
  go_upto_region 1 with fail
  refine nm_ ?_
  intro w1 hw
  have HW1 : Hid (Wk 136 w w1 B X ⟨(b.t + 1),b.n,b.w,b.cs,b.hs,b.os⟩ [] 0 A1 A2 A3 A4 p1 p2 p3 p4):=hd_ (by rw [hw];exact HW_w.out.setTick (by decide) (by decide) (by decide) (by decide) _)
  clear hw
  clear a af az
  obtain ⟨a,af,az⟩:=opc_ HW1.out.open_
  go_wp2_with fail
  clear a af az
  go_loopw [21] (fun i wr => ∃ k : Nat,k ≤ b.hs.length∧i = .int .i64 k∧Hid (Wk 136 w wr B X ⟨(b.t + 1),b.n,b.w,b.cs,mapTo olderH b.hs k,b.os⟩ [] 0 A1 A2 A3 A4 p1 p2 p3 p4)) (fun i _ => b.hs.length - (intOf i).toNat)
  case atStart => exact ⟨0,Nat.zero_le _,rfl,by rw [zkl];exact HW1⟩
  case round =>
   skip
   obtain ⟨k,hk,rfl,HR⟩:=hrel
   have HW_wr:=HR
   clear HR
   have HML:=hd_ (zkp olderH b.hs k)
   obtain ⟨a,af,az⟩:=opc_ HW_wr.out.open_
   simp only at a
   rw [HML.out] at a
   by_cases hlt : k < b.hs.length
   ·
    obtain ⟨g2,hA,hBg⟩:=HW_wr.out.o.h.headW (by rw [List.length_map,HML.out];omega)
    subst hA
    have HRow : Hid (((mapTo olderH b.hs k).map Htlc.cells)[k]? = some b.hs[k].cells):=hd_ (by rw [List.getElem?_map,zjq olderH hlt];rfl)
    have c6:=HW_wr.out.o.h.cellAt HRow (j:=6) (by decide)
    simp only [Htlc.cells,List.getElem?_cons_zero,List.getElem?_cons_succ] at c6
    have cf:=fun j => HW_wr.out.o.h.frozenAt j
    obtain ⟨ma,mb⟩:=HAge.out k hlt
    have j0 : (0 : Int) ≤ (k : Int):=by omega
    have j1 : (k : Int) < (b.hs.length : Int):=by omega
    have KS:=hd_ (zsc mb)
    go_wp2_with fail
    go_roundw
    case rel => exact ⟨k + 1,by omega,by go_num,hd_ (by have h9:=HW_wr.out.putCellH (i:=k) (j:=6) (c:=b.hs[k]) (c':={ b.hs[k] with Age:=min (b.hs[k].Age + 1) 1125899906842624 }) (u:=.int .i64 (min (b.hs[k].Age + 1) 1125899906842624)) (by decide) (zjq olderH hlt) (by decide) rfl;rw [← KS.out,zkq olderH hlt] at h9;exact h9)⟩
    case measure => simp [intOf];omega
   obtain rfl : k = b.hs.length:=by omega
   go_wp2_with fail
   clear a af az
   rw [zkz] at HW_wr
   clear HML hk
   obtain ⟨wo,rfl⟩ : ∃ wo : World,wo = wr:=⟨_,rfl⟩
   have HW_wo:=HW_wr
   clear HW_wr
   go_loopw [47] (fun i wr => ∃ k : Nat,k ≤ b.cs.length∧i = .int .i64 k∧Hid (Wk 136 w wr B X ⟨(b.t + 1),b.n,b.w,b.cs,(b.hs.map olderH),b.os⟩ [] 0 A1 A2 A3 A4 p1 p2 p3 p4)) (fun i _ => b.cs.length - (intOf i).toNat)
   case atStart => exact ⟨0,Nat.zero_le _,rfl,HW_wo⟩
   case round =>
    obtain ⟨k,hk,rfl,HR⟩:=hrel
    have HW_wr:=HR
    clear HR
    obtain ⟨a,af,az⟩:=opc_ HW_wr.out.open_
    simp only at a
    by_cases hlt : k < b.cs.length
    ·
     have j0 : (0 : Int) ≤ (k : Int):=by omega
     have j1 : (k : Int) < (b.cs.length : Int):=by omega
     obtain ⟨g,hA,hBg⟩:=HW_wr.out.o.c.headW (by rw [List.length_map];(try simp only);omega)
     subst hA
     go_wp2_with fail
     go_roundw
     case rel => exact ⟨k + 1,by omega,by go_num,HW_wr⟩
     case measure => simp [intOf];omega
    obtain rfl : k = b.cs.length:=by omega
    go_wp2_with fail
    go_end0
    rw [HO.out]
    exact Acts.ok ⟨_,_,_,_,_,_,_,_,rfl,HW_wr.out⟩
 have HO:=hd_ (zsp (b:=b) hne.out (eq_of_beq t5))
 have HW_w:=H
 clear H
 obtain ⟨a,af,az⟩:=opc_ HW_w.out.open_
 go_enter Tryz.func94,Tryz.ntmps94
 go_upto_region 1 with fail
 refine nm_ ?_
 intro w1 hw
 have HW1 : Hid (Wk 136 w w1 B X ⟨(b.t + 1),b.n,b.w,b.cs,b.hs,b.os⟩ [] 0 A1 A2 A3 A4 p1 p2 p3 p4):=hd_ (by rw [hw];exact HW_w.out.setTick (by decide) (by decide) (by decide) (by decide) _)
 clear hw
 clear a af az
 obtain ⟨a,af,az⟩:=opc_ HW1.out.open_
 go_wp2_with fail
 clear a af az
 go_loopw [21] (fun i wr => ∃ k : Nat,k ≤ b.hs.length∧i = .int .i64 k∧Hid (Wk 136 w wr B X ⟨(b.t + 1),b.n,b.w,b.cs,mapTo olderH b.hs k,b.os⟩ [] 0 A1 A2 A3 A4 p1 p2 p3 p4)) (fun i _ => b.hs.length - (intOf i).toNat)
 case atStart => exact ⟨0,Nat.zero_le _,rfl,by rw [zkl];exact HW1⟩
 case round =>
  skip
  obtain ⟨k,hk,rfl,HR⟩:=hrel
  have HW_wr:=HR
  clear HR
  have HML:=hd_ (zkp olderH b.hs k)
  obtain ⟨a,af,az⟩:=opc_ HW_wr.out.open_
  simp only at a
  rw [HML.out] at a
  by_cases hlt : k < b.hs.length
  ·
   obtain ⟨g2,hA,hBg⟩:=HW_wr.out.o.h.headW (by rw [List.length_map,HML.out];omega)
   subst hA
   have HRow : Hid (((mapTo olderH b.hs k).map Htlc.cells)[k]? = some b.hs[k].cells):=hd_ (by rw [List.getElem?_map,zjq olderH hlt];rfl)
   have c6:=HW_wr.out.o.h.cellAt HRow (j:=6) (by decide)
   simp only [Htlc.cells,List.getElem?_cons_zero,List.getElem?_cons_succ] at c6
   have cf:=fun j => HW_wr.out.o.h.frozenAt j
   obtain ⟨ma,mb⟩:=HAge.out k hlt
   have j0 : (0 : Int) ≤ (k : Int):=by omega
   have j1 : (k : Int) < (b.hs.length : Int):=by omega
   have KS:=hd_ (zsc mb)
   go_wp2_with fail
   go_roundw
   case rel => exact ⟨k + 1,by omega,by go_num,hd_ (by have h9:=HW_wr.out.putCellH (i:=k) (j:=6) (c:=b.hs[k]) (c':={ b.hs[k] with Age:=min (b.hs[k].Age + 1) 1125899906842624 }) (u:=.int .i64 (min (b.hs[k].Age + 1) 1125899906842624)) (by decide) (zjq olderH hlt) (by decide) rfl;rw [← KS.out,zkq olderH hlt] at h9;exact h9)⟩
   case measure => simp [intOf];omega
  obtain rfl : k = b.hs.length:=by omega
  go_wp2_with fail
  clear a af az
  rw [zkz] at HW_wr
  clear HML hk
  obtain ⟨wo,rfl⟩ : ∃ wo : World,wo = wr:=⟨_,rfl⟩
  have HW_wo:=HW_wr
  clear HW_wr
  go_loopw [47] (fun i wr => ∃ k : Nat,k ≤ b.cs.length∧i = .int .i64 k∧Hid (Wk 136 w wr B X ⟨(b.t + 1),b.n,b.w,mapTo fadeC b.cs k,(b.hs.map olderH),b.os⟩ [] 0 A1 A2 A3 A4 p1 p2 p3 p4)) (fun i _ => b.cs.length - (intOf i).toNat)
  case atStart => exact ⟨0,Nat.zero_le _,rfl,by rw [zkl];exact HW_wo⟩
  case round =>
   obtain ⟨k,hk,rfl,HR⟩:=hrel
   have HW_wr:=HR
   clear HR
   have HML:=hd_ (zkp fadeC b.cs k)
   obtain ⟨a,af,az⟩:=opc_ HW_wr.out.open_
   simp only at a
   rw [HML.out] at a
   by_cases hlt : k < b.cs.length
   ·
    have j0 : (0 : Int) ≤ (k : Int):=by omega
    have j1 : (k : Int) < (b.cs.length : Int):=by omega
    obtain ⟨g,hA,hBg⟩:=HW_wr.out.o.c.headW (by rw [List.length_map,HML.out];omega)
    subst hA
    obtain ⟨c,hc⟩ : ∃ c,b.cs[k] = c:=⟨_,rfl⟩
    have hr : ((mapTo fadeC b.cs k).map Chan.cells)[k]? = some c.cells:=by rw [List.getElem?_map,zjq fadeC hlt,hc];rfl
    obtain ⟨y0,y1,y2,y3,y4,y5,y6⟩:=c
    have HRow:=hd_ hr
    have HCI:=hd_ hc
    clear hr hc
    have y6c:=HW_wr.out.o.c.cellAt HRow (j:=6) (by decide)
    simp only [Chan.cells,List.getElem?_cons_zero,List.getElem?_cons_succ] at y6c
    have yf:=fun j => HW_wr.out.o.c.frozenAt j
    go_wp2_with fail
    refine (i_ScoreFade _ _).mono ?_
    rintro e' wz ⟨rfl,rfl⟩
    go_wp2_with fail
    go_roundw
    case rel => exact ⟨k + 1,by omega,by go_num,hd_ (by have h9:=HW_wr.out.putCellC (i:=k) (j:=6) (c:=⟨y0,y1,y2,y3,y4,y5,y6⟩) (c':=fadeC ⟨y0,y1,y2,y3,y4,y5,y6⟩) (u:=.int .i64 (fadeF y6)) (by decide) (by rw [← HCI.out];exact zjq fadeC hlt) (by decide) rfl;simp only at h9;rw [← HCI.out,zkq fadeC hlt] at h9;exact h9)⟩
    case measure => simp [intOf];omega
   obtain rfl : k = b.cs.length:=by omega
   rw [zkz] at HW_wr
   go_wp2_with fail
   go_end0
   rw [HO.out]
   exact Acts.ok ⟨_,_,_,_,_,_,_,_,rfl,HW_wr.out⟩
end Go.Proofs.YtdbmkfmenfcbiaaGreat

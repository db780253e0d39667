/- ITi · SAll · DrawEv · RtP · DrawEs · Rt1 · DrawBk · RtS: each text proves what its theorems say, with no conditions but theirs. -/
import Derived.Test.YtdbmkfmenfcbiaaRows
import Derived.Test.YtdbmkfmenfcbiaaQISe
import Derived.Test.YtdbmkfmenfcbiaaQM2
import Derived.Test.YtdbmkfmenfcbiaaQSApply
import Derived.Test.YtdbmkfmenfcbiaaQM1
import Derived.Test.YtdbmkfmenfcbiaaQDrawL
import Derived.Test.YtdbmkfmenfcbiaaQM3
import Derived.Deep.CutRange
import Derived.Test.YtdbmkfmenfcbiaaQM4
import Derived.Test.YtdbmkfmenfcbiaaQISm
namespace Go.Proofs.Ytdbmkfmenfcbiaa
open Go.RowKit Go.Deep
theorem older_min {h : Htlc} (h1 : h.Age ≤ 1125899906842624) : olderH h = { h with Age:=min (h.Age + 1) 1125899906842624 }:=by
 unfold olderH
 split
 ·
  rw [show min (h.Age + 1) 1125899906842624 = h.Age + 1 by omega]
 ·
  rw [show min (h.Age + 1) 1125899906842624 = h.Age by omega]
set_option maxRecDepth 100000 in
set_option maxHeartbeats 4000000 in
theorem i_tick (w0 w : World) (B X : Nat) (b : Bk) (A1 A2 A3 A4 : Option Addr) (p1 p2 p3 p4 : Nat) (hF : BookFacts b.t b.n b.w b.cs b.hs b.os) (ht : b.t ≠ 1125899906842624) (h : Wk 88 w0 w B X b [] 0 A1 A2 A3 A4 p1 p2 p3 p4) :
  Calls Try.prog 60 #[.pointer (some ⟨X,0,none⟩)] w (Acts 88 w B X (tickB b)):=by
 have H:=hd_ h.here
 clear h
 obtain ⟨m1,m2⟩:=hF.t
 have hcl:=hF.cl
 have h60:=hF.small.hl
 have HAge : Hid (∀ k,(hk : k < b.hs.length) → 0 ≤ b.hs[k].Age∧b.hs[k].Age ≤ 1125899906842624):=hd_ (fun k hk => by have hp:=hF.parts;simp only [partsB,Bool.and_eq_true] at hp;have h1:=List.all_eq_true.1 hp.1.1 _ (List.getElem_mem hk);simp only [htlcB,Bool.and_eq_true,zkg] at h1;exact h1.2)
 clear hF
 have m3 : b.t < 1125899906842624:=by omega
 have hne:=hd_ ht
 clear ht
 cases t5 : ((b.t + 1) % 5 == 0)
 ·
  have HO:=hd_ (tickB_no (b:=b) hne.out (beq_eq_false_iff_ne.1 t5))
  have HW_w:=H
  clear H
  obtain ⟨a0,a1,a2,a3,a4,a5,a6,a7,af,az⟩:=HW_w.out.open_
  go_enter Try.func60,Try.ntmps60
  go_upto_region 1 with fail
  refine nm_ ?_
  intro w1 hw
  have HW_w1 : Hid (Wk 88 w w1 B X ⟨(b.t + 1),b.n,b.w,b.cs,b.hs,b.os⟩ [] 0 A1 A2 A3 A4 p1 p2 p3 p4):=hd_ (by rw [hw];exact HW_w.out.setTick (by decide) (by decide) (by decide) (by decide) _)
  clear hw
  clear a0 a1 a2 a3 a4 a5 a6 a7 af az
  obtain ⟨a0,a1,a2,a3,a4,a5,a6,a7,af,az⟩:=HW_w1.out.open_
  go_wp2_with fail
  clear a0 a1 a2 a3 a4 a5 a6 a7 af az
  go_loopw [21] (fun i wr => ∃ k : Nat,k ≤ b.hs.length∧i = .int .i64 k∧Hid (Wk 88 w wr B X ⟨(b.t + 1),b.n,b.w,b.cs,mapTo olderH b.hs k,b.os⟩ [] 0 A1 A2 A3 A4 p1 p2 p3 p4)) (fun i _ => b.hs.length - (intOf i).toNat)
  case atStart => exact ⟨0,Nat.zero_le _,rfl,by rw [zwn];exact HW_w1⟩
  case round =>
   skip
   obtain ⟨k,hk,rfl,HR⟩:=hrel
   have HW_wr:=HR
   clear HR
   have HML:=hd_ (zhb olderH b.hs k)
   obtain ⟨a0,a1,a2,a3,a4,a5,a6,a7,af,az⟩:=HW_wr.out.open_
   simp only at a0 a1 a2 a3 a4 a5 a6
   rw [HML.out] at a4
   by_cases hlt : k < b.hs.length
   ·
    obtain ⟨g2,hA,hBg⟩:=HW_wr.out.o.h.headW (by rw [List.length_map,HML.out];omega)
    subst hA
    have HRow : Hid (((mapTo olderH b.hs k).map Htlc.cells)[k]? = some b.hs[k].cells):=hd_ (by rw [List.getElem?_map,zvf olderH hlt];rfl)
    have c6:=HW_wr.out.o.h.cellAt HRow.out (j:=6) (by decide)
    simp only [Htlc.cells,List.getElem?_cons_zero,List.getElem?_cons_succ] at c6
    have cf:=fun j => HW_wr.out.o.h.frozenAt j
    obtain ⟨ma,mb⟩:=HAge.out k hlt
    have j0 : (0 : Int) ≤ (k : Int):=by omega
    have j1 : (k : Int) < (b.hs.length : Int):=by omega
    have KS:=hd_ (older_min mb)
    go_wp2_with fail
    go_roundw
    case rel => exact ⟨k + 1,by omega,by go_num,hd_ (by have h9:=HW_wr.out.putCellH (i:=k) (j:=6) (c:=b.hs[k]) (c':={ b.hs[k] with Age:=min (b.hs[k].Age + 1) 1125899906842624 }) (u:=.int .i64 (min (b.hs[k].Age + 1) 1125899906842624)) (by decide) (zvf olderH hlt) (by decide) rfl;rw [← KS.out,zhc olderH hlt] at h9;exact h9)⟩
    case measure => simp [intOf];omega
   ·
    obtain rfl : k = b.hs.length:=by omega
    go_wp2_with fail
    clear a0 a1 a2 a3 a4 a5 a6 a7 af az
    rw [zhn] at HW_wr
    clear HML hk
    obtain ⟨wo,rfl⟩ : ∃ wo : World,wo = wr:=⟨_,rfl⟩
    have HW_wo:=HW_wr
    clear HW_wr
    go_loopw [47] (fun i wr => ∃ k : Nat,k ≤ b.cs.length∧i = .int .i64 k∧Hid (Wk 88 w wr B X ⟨(b.t + 1),b.n,b.w,b.cs,(b.hs.map olderH),b.os⟩ [] 0 A1 A2 A3 A4 p1 p2 p3 p4)) (fun i _ => b.cs.length - (intOf i).toNat)
    case atStart => exact ⟨0,Nat.zero_le _,rfl,HW_wo⟩
    case round =>
     obtain ⟨k,hk,rfl,HR⟩:=hrel
     have HW_wr:=HR
     clear HR
     obtain ⟨a0,a1,a2,a3,a4,a5,a6,a7,af,az⟩:=HW_wr.out.open_
     simp only at a0 a1 a2 a3 a4 a5 a6
     by_cases hlt : k < b.cs.length
     ·
      have j0 : (0 : Int) ≤ (k : Int):=by omega
      have j1 : (k : Int) < (b.cs.length : Int):=by omega
      obtain ⟨g,hA,hBg⟩:=HW_wr.out.o.c.headW (by rw [List.length_map];(try simp only);omega)
      subst hA
      go_wp2_with fail
      go_roundw
      case rel => exact ⟨k + 1,by omega,by go_num,HW_wr⟩
      case measure => simp [intOf];omega
     ·
      obtain rfl : k = b.cs.length:=by omega
      go_wp2_with fail
      go_end0
      rw [HO.out]
      exact Acts.ok ⟨_,_,_,_,_,_,_,_,rfl,HW_wr.out⟩
 ·
  have HO:=hd_ (tickB_yes (b:=b) hne.out (eq_of_beq t5))
  have HW_w:=H
  clear H
  obtain ⟨a0,a1,a2,a3,a4,a5,a6,a7,af,az⟩:=HW_w.out.open_
  go_enter Try.func60,Try.ntmps60
  go_upto_region 1 with fail
  refine nm_ ?_
  intro w1 hw
  have HW_w1 : Hid (Wk 88 w w1 B X ⟨(b.t + 1),b.n,b.w,b.cs,b.hs,b.os⟩ [] 0 A1 A2 A3 A4 p1 p2 p3 p4):=hd_ (by rw [hw];exact HW_w.out.setTick (by decide) (by decide) (by decide) (by decide) _)
  clear hw
  clear a0 a1 a2 a3 a4 a5 a6 a7 af az
  obtain ⟨a0,a1,a2,a3,a4,a5,a6,a7,af,az⟩:=HW_w1.out.open_
  go_wp2_with fail
  clear a0 a1 a2 a3 a4 a5 a6 a7 af az
  go_loopw [21] (fun i wr => ∃ k : Nat,k ≤ b.hs.length∧i = .int .i64 k∧Hid (Wk 88 w wr B X ⟨(b.t + 1),b.n,b.w,b.cs,mapTo olderH b.hs k,b.os⟩ [] 0 A1 A2 A3 A4 p1 p2 p3 p4)) (fun i _ => b.hs.length - (intOf i).toNat)
  case atStart => exact ⟨0,Nat.zero_le _,rfl,by rw [zwn];exact HW_w1⟩
  case round =>
   skip
   obtain ⟨k,hk,rfl,HR⟩:=hrel
   have HW_wr:=HR
   clear HR
   have HML:=hd_ (zhb olderH b.hs k)
   obtain ⟨a0,a1,a2,a3,a4,a5,a6,a7,af,az⟩:=HW_wr.out.open_
   simp only at a0 a1 a2 a3 a4 a5 a6
   rw [HML.out] at a4
   by_cases hlt : k < b.hs.length
   ·
    obtain ⟨g2,hA,hBg⟩:=HW_wr.out.o.h.headW (by rw [List.length_map,HML.out];omega)
    subst hA
    have HRow : Hid (((mapTo olderH b.hs k).map Htlc.cells)[k]? = some b.hs[k].cells):=hd_ (by rw [List.getElem?_map,zvf olderH hlt];rfl)
    have c6:=HW_wr.out.o.h.cellAt HRow.out (j:=6) (by decide)
    simp only [Htlc.cells,List.getElem?_cons_zero,List.getElem?_cons_succ] at c6
    have cf:=fun j => HW_wr.out.o.h.frozenAt j
    obtain ⟨ma,mb⟩:=HAge.out k hlt
    have j0 : (0 : Int) ≤ (k : Int):=by omega
    have j1 : (k : Int) < (b.hs.length : Int):=by omega
    have KS:=hd_ (older_min mb)
    go_wp2_with fail
    go_roundw
    case rel => exact ⟨k + 1,by omega,by go_num,hd_ (by have h9:=HW_wr.out.putCellH (i:=k) (j:=6) (c:=b.hs[k]) (c':={ b.hs[k] with Age:=min (b.hs[k].Age + 1) 1125899906842624 }) (u:=.int .i64 (min (b.hs[k].Age + 1) 1125899906842624)) (by decide) (zvf olderH hlt) (by decide) rfl;rw [← KS.out,zhc olderH hlt] at h9;exact h9)⟩
    case measure => simp [intOf];omega
   ·
    obtain rfl : k = b.hs.length:=by omega
    go_wp2_with fail
    clear a0 a1 a2 a3 a4 a5 a6 a7 af az
    rw [zhn] at HW_wr
    clear HML hk
    obtain ⟨wo,rfl⟩ : ∃ wo : World,wo = wr:=⟨_,rfl⟩
    have HW_wo:=HW_wr
    clear HW_wr
    go_loopw [47] (fun i wr => ∃ k : Nat,k ≤ b.cs.length∧i = .int .i64 k∧Hid (Wk 88 w wr B X ⟨(b.t + 1),b.n,b.w,mapTo fadeC b.cs k,(b.hs.map olderH),b.os⟩ [] 0 A1 A2 A3 A4 p1 p2 p3 p4)) (fun i _ => b.cs.length - (intOf i).toNat)
    case atStart => exact ⟨0,Nat.zero_le _,rfl,by rw [zwn];exact HW_wo⟩
    case round =>
     obtain ⟨k,hk,rfl,HR⟩:=hrel
     have HW_wr:=HR
     clear HR
     have HML:=hd_ (zhb fadeC b.cs k)
     obtain ⟨a0,a1,a2,a3,a4,a5,a6,a7,af,az⟩:=HW_wr.out.open_
     simp only at a0 a1 a2 a3 a4 a5 a6
     rw [HML.out] at a3
     by_cases hlt : k < b.cs.length
     ·
      have j0 : (0 : Int) ≤ (k : Int):=by omega
      have j1 : (k : Int) < (b.cs.length : Int):=by omega
      obtain ⟨g,hA,hBg⟩:=HW_wr.out.o.c.headW (by rw [List.length_map,HML.out];omega)
      subst hA
      obtain ⟨c,hc⟩ : ∃ c,b.cs[k] = c:=⟨_,rfl⟩
      have hr : ((mapTo fadeC b.cs k).map Chan.cells)[k]? = some c.cells:=by rw [List.getElem?_map,zvf fadeC hlt,hc];rfl
      obtain ⟨y0,y1,y2,y3,y4,y5,y6⟩:=c
      have HRow:=hd_ hr
      have HCI:=hd_ hc
      clear hr hc
      have y6c:=HW_wr.out.o.c.cellAt HRow.out (j:=6) (by decide)
      simp only [Chan.cells,List.getElem?_cons_zero,List.getElem?_cons_succ] at y6c
      have yf:=fun j => HW_wr.out.o.c.frozenAt j
      go_wp2_with fail
      refine (i_ScoreFade _ _).mono ?_
      rintro e' wz ⟨rfl,rfl⟩
      go_wp2_with fail
      go_roundw
      case rel => exact ⟨k + 1,by omega,by go_num,hd_ (by have h9:=HW_wr.out.putCellC (i:=k) (j:=6) (c:=⟨y0,y1,y2,y3,y4,y5,y6⟩) (c':=fadeC ⟨y0,y1,y2,y3,y4,y5,y6⟩) (u:=.int .i64 (fadeF y6)) (by decide) (by rw [← HCI.out];exact zvf fadeC hlt) (by decide) rfl;simp only at h9;rw [← HCI.out,zhc fadeC hlt] at h9;exact h9)⟩
      case measure => simp [intOf];omega
     ·
      obtain rfl : k = b.cs.length:=by omega
      rw [zhn] at HW_wr
      go_wp2_with fail
      go_end0
      rw [HO.out]
      exact Acts.ok ⟨_,_,_,_,_,_,_,_,rfl,HW_wr.out⟩
end Go.Proofs.Ytdbmkfmenfcbiaa
namespace Go.Proofs.Ytdbmkfmenfcbiaa
open Go.RowKit Go.Deep
def LenOk (b : Bk) : Prop:=b.cs.length ≤ 21∧b.hs.length ≤ 61∧b.os.length ≤ 21
theorem LenOk.zero : LenOk bk0:=⟨by decide,by decide,by decide⟩
theorem lenOk_of {b : Bk} (h : b.ok = true) : LenOk b:=by
  have hF:=zvi h
  exact ⟨Nat.le_trans hF.cl (by decide),Nat.le_trans hF.small.hl (by decide),Nat.le_trans hF.small.ol (by decide)⟩
theorem insC_len (c : Chan) (cs : List Chan) : (insC c cs).length = cs.length + 1:=by
  unfold insC
  rw [List.length_append,List.length_cons]
  have h:=congrArg List.length (List.takeWhile_append_dropWhile (p:=fun x : Chan => decide (x.Id < c.Id)) (l:=cs))
  rw [List.length_append] at h
  omega
theorem setCh_len (cs : List Chan) (ch : Int) (f : Chan → Chan) : (setCh cs ch f).length = cs.length:=List.length_modify ..
theorem stepS_len {b : Bk} {e : Event} (h : b.ok = true) : LenOk (stepS b e).b:=by
  have hF:=zvi h
  have h1:=hF.cl
  have h2:=hF.small.hl
  have h3:=hF.small.ol
  have z : LenOk bk0:=LenOk.zero
  have hb : LenOk b:=lenOk_of h
  have fh : ∀ p : Htlc → Bool,(b.hs.filter p).length ≤ 61:=fun p => Nat.le_trans (List.length_filter_le _ _) (by omega)
  have fo : ∀ p : Circle → Bool,(b.os.filter p).length ≤ 21:=fun p => Nat.le_trans (List.length_filter_le _ _) (by omega)
  have fc : ∀ p : Chan → Bool,(b.cs.filter p).length ≤ 21:=fun p => Nat.le_trans (List.length_filter_le _ _) (by omega)
  unfold stepS
  split
  · unfold depB;split
    · exact z
    · exact hb
  split
  · unfold openB;(repeat' split) <;> first | exact z | exact ⟨by simp only [done,insC_len];omega,hb.2⟩
  split
  · unfold closeA closeB;(repeat' split) <;> first | exact z | exact ⟨fc _,hb.2⟩
  split
  · unfold priceB;(repeat' split) <;> first | exact z | exact ⟨by simp only [done,setCh_len];omega,hb.2⟩
  split
  · unfold admitS;(repeat' split) <;> first | exact z | exact ⟨by simp only [done,zjb];omega,by simp only [done,List.length_append,List.length_singleton];omega,hb.2.2⟩
  split
  · unfold settleS;(repeat' split) <;> first | exact z | exact ⟨by simp only [done,zjb,setCh_len];omega,fh _,hb.2.2⟩
  split
  · unfold settleS;(repeat' split) <;> first | exact z | exact ⟨by simp only [done,zjb,setCh_len];omega,fh _,hb.2.2⟩
  split
  · unfold tickB;split
    · exact z
    · refine ⟨?_,by simp only [done,List.length_map];omega,hb.2.2⟩
      simp only [done]
      split
      · rw [List.length_map];omega
      · omega
  split
  · unfold launchS;(repeat' split) <;> first | exact z | exact ⟨by simp only [done,zjb];omega,hb.2.1,by simp only [done,List.length_append,List.length_singleton];omega⟩
  split
  · unfold landS;(repeat' split) <;> first | exact z | exact ⟨by simp only [done,zjb];omega,hb.2.1,fo _⟩
  · unfold landS;(repeat' split) <;> first | exact z | exact ⟨by simp only [done,zjb];omega,hb.2.1,fo _⟩
theorem applyS_len (b : Bk) (e : Event) : LenOk (applyS b e).b:=by
  unfold applyS
  split
  · exact LenOk.zero
  · rename_i h
    split
    · exact LenOk.zero
    · refine stepS_len ?_
      cases h9 : b.ok
      · rw [h9] at h;exact absurd rfl h
      · rfl
end Go.Proofs.Ytdbmkfmenfcbiaa
namespace Go.Proofs.Ytdbmkfmenfcbiaa
open Go.RowKit Go.Deep
end Go.Proofs.Ytdbmkfmenfcbiaa
namespace Go.Proofs.Ytdbmkfmenfcbiaa
open Go.RowKit Go.Deep
def rtIn (ten : Bool) (key : Int) (st : Int × Int) (o : Circle) : Int × Int:=if (ten && o.Key == key) = true then (wrap64 (st.1 + 1),wrap64 (st.2 + o.Fee)) else st
def rtStep (st : (Int × Int) × Bk) (e : Event) : (Int × Int) × Bk:=if (applyS st.2 e).code = 0 then (st.2.os.foldl (rtIn (e.Kind == 10) e.Key) st.1,(applyS st.2 e).b) else st
def rtBk : Bk:=⟨0,1,0,[],[],[]⟩
def rtF (es : List Event) : (Int × Int) × Bk:=es.foldl rtStep ((0,0),rtBk)
theorem rtIn_no {key : Int} : ∀ (l : List Circle) (st : Int × Int),(∀ x ∈ l,x.Key ≠ key) → l.foldl (rtIn true key) st = st
  | [],_,_ => rfl
  | x :: l,st,h => by
    have e : rtIn true key st x = st:=by
      unfold rtIn
      rw [if_neg (by simpa using h x (by simp))]
    rw [List.foldl_cons,e]
    exact rtIn_no l st (fun y hy => h y (by simp [hy]))
theorem rtIn_off (key : Int) : ∀ (l : List Circle) (st : Int × Int),l.foldl (rtIn false key) st = st
  | [],_ => rfl
  | x :: l,st => by
    rw [List.foldl_cons]
    exact rtIn_off key l st
theorem rt_land {b : Bk} {e : Event} (hk : e.Kind = 10) (hc : (applyS b e).code = 0) (st : Int × Int) : ∃ i : Nat,∃ h : i < b.os.length,oAt b.os e.Key = (i : Int)∧b.os.foldl (rtIn true e.Key) st = (wrap64 (st.1 + 1),wrap64 (st.2 + b.os[i].Fee)):=by
  have hok : (b.ok && evB e) = true:=by
    cases h : b.ok && evB e with
    | true => rfl
    | false => rw [applyS_1 h] at hc;cases hc
  have hb : b.ok = true:=((Bool.and_eq_true _ _).mp hok).1
  have hF:=zvi hb
  have hn : b.n ≠ 1125899906842624:=fun h => by rw [applyS_2 hok h] at hc;cases hc
  rw [applyS_3 hok hn] at hc
  have hl : stepS b e = landS b e.Key true:=by
    unfold stepS
    rw [if_neg (by omega),if_neg (by omega),if_neg (by omega),if_neg (by omega),if_neg (by omega),if_neg (by omega),if_neg (by omega),if_neg (by omega),if_neg (by omega),if_pos hk]
  rw [hl] at hc
  have h0 : ¬ oAt b.os e.Key < 0:=fun h => by
    have:=os_missed h
    unfold landS at hc
    rw [if_pos this] at hc
    cases hc
  obtain ⟨i,hi⟩:=Int.eq_ofNat_of_zero_le (show 0 ≤ oAt b.os e.Key by omega)
  obtain ⟨hlt,hkey⟩:=oAt_some hi
  refine ⟨i,hlt,hi,?_⟩
  have hA : ∀ x ∈ b.os.take i,x.Key ≠ e.Key:=by
    intro x hx
    obtain ⟨j,hj,rfl⟩:=List.mem_take_iff_getElem.1 hx
    rw [← hkey]
    exact os_ne hF (by omega) hlt
  have hB : ∀ x ∈ b.os.drop (i + 1),x.Key ≠ e.Key:=by
    intro x hx
    obtain ⟨j,hj,rfl⟩:=List.mem_iff_getElem.1 hx
    rw [List.length_drop] at hj
    rw [List.getElem_drop,← hkey]
    exact (os_ne hF (show i < i + 1 + j by omega) (by omega)).symm
  have e1 : b.os.foldl (rtIn true e.Key) st = (b.os.take i ++ b.os[i] :: b.os.drop (i + 1)).foldl (rtIn true e.Key) st:=by rw [← zth hlt]
  have e2 : rtIn true e.Key st b.os[i] = (wrap64 (st.1 + 1),wrap64 (st.2 + b.os[i].Fee)):=by
    unfold rtIn
    rw [if_pos (by rw [hkey];simp)]
  rw [e1,List.foldl_append,rtIn_no _ _ hA,List.foldl_cons,e2,rtIn_no _ _ hB]
end Go.Proofs.Ytdbmkfmenfcbiaa
namespace Go.Proofs.Ytdbmkfmenfcbiaa
open Go.RowKit Go.Deep
theorem Ow.apart {w : World} {B size X i : Nat} {e : TypeId} {v u : Value} {rows : List (List Value)} (h : Ow w B e size v rows) (hX : ∀ k,v.ownBlock = some k → k ≠ X) : Ow (w.setCell ⟨X,i,none⟩ u) B e size v rows :=
  h.grown (zqg (World.grownBy.refl w (some X)) i u) (by
    cases hv : v.ownBlock with
    | none => exact .inl rfl
    | some k => exact .inr (someNeL (hX k hv)))
end Go.Proofs.Ytdbmkfmenfcbiaa
namespace Go.Proofs.Ytdbmkfmenfcbiaa
open Go.RowKit Go.Deep
structure Two (B G1 G2 : Nat) (w w' : World) : Prop where
 b : Below B w w'
 o : ∀ k x,k ≠ G1 → k ≠ G2 → w.heap[k]? = some x → w'.heap[k]? = some x
section
variable {B G1 G2 : Nat} {w w' w'' : World}
theorem Two.refl (B G1 G2 : Nat) (w : World) : Two B G1 G2 w w:=⟨Below.refl _ _,fun _ _ _ _ h => h⟩
theorem Two.trans (h : Two B G1 G2 w w') (h' : Two B G1 G2 w' w'') : Two B G1 G2 w w'':=⟨h.b.trans h'.b,fun k x h1 h2 hk => h'.o k x h1 h2 (h.o k x h1 h2 hk)⟩
theorem Two.below (hb : Below w.heap.size w w') (hB : B ≤ w.heap.size) : Two B G1 G2 w w':=⟨hb.mono hB,fun k _ _ _ hk => (hb.block k (gz_ hk).1).trans hk⟩
theorem Two.set1 (hB : B ≤ G1) (u : Value) : Two B G1 G2 w (w.setCell ⟨G1,0,none⟩ u):=⟨(Below.refl B w).setCell hB _,fun _ _ h1 _ hk => zqh h1 hk⟩
theorem Two.set2 (hB : B ≤ G2) (u : Value) : Two B G1 G2 w (w.setCell ⟨G2,0,none⟩ u):=⟨(Below.refl B w).setCell hB _,fun _ _ _ h2 hk => zqh h2 hk⟩
theorem Two.drew (h : Two B G1 G2 w w') : Two B G1 G2 w w'.drew:=⟨h.b.drew,h.o⟩
end
theorem OwB.farB {w : World} {B G : Nat} {b : Bk} {A1 A2 A3 : Option Addr} {p1 p2 p3 : Nat} (h : OwB w B b A1 A2 A3 p1 p2 p3) (hB : G < B) (i : Nat) (u : Value) : OwB (w.setCell ⟨G,i,none⟩ u) B b A1 A2 A3 p1 p2 p3:=⟨h.c.far hB _,h.h.far hB _,h.o.far hB _⟩
set_option maxRecDepth 100000 in
set_option maxHeartbeats 4000000 in
theorem i_Rt1 (B B2 G1 G2 : Nat) (b : Bk) (C1 C2 C3 : Option Addr) (q1 q2 q3 : Nat) (e : Event) (n s : Int) (w : World) (hB1 : B ≤ G1) (hB2 : B ≤ G2) (hne : G1 ≠ G2) (hl1 : G1 < B2) (hl2 : G2 < B2) (hlo : b.os.length ≤ 1048576) (ho : OwB w B2 b C1 C2 C3 q1 q2 q3) (h1 : w.heap[G1]? = some (.cells #[.int .i64 n] 3 (0,0))) (h2 : w.heap[G2]? = some (.cells #[.int .i64 s] 3 (0,0)))
  (hf : e.Kind = 10 → ∃ i : Nat,∃ h : i < b.os.length,oAt b.os e.Key = (i : Int)∧b.os.foldl (rtIn true e.Key) (n,s) = (wrap64 (n + 1),wrap64 (s + b.os[i].Fee))) :
  Calls Try.prog 13 #[.agg #[.int .i64 b.t,.int .i64 b.n,.int .i64 b.w,.slice C1 b.cs.length q1,.slice C2 b.hs.length q2,.slice C3 b.os.length q3],.agg #[.int .i64 e.Kind,.int .i64 e.Key,.int .i64 e.Ch,.int .i64 e.To,.int .i64 e.Amt,.int .i64 e.Fee,.bool e.Yes],.pointer (some ⟨G1,0,none⟩),.pointer (some ⟨G2,0,none⟩)] w fun e' w' => e' = .returned (.tuple #[])∧(∃ n' s' : Int,b.os.foldl (rtIn (e.Kind == 10) e.Key) (n,s) = (n',s')∧w'.heap[G1]? = some (.cells #[.int .i64 n'] 3 (0,0))∧w'.heap[G2]? = some (.cells #[.int .i64 s'] 3 (0,0)))∧Two B G1 G2 w w':=by
 have HN_w:=hd_ h1
 have HS_w:=hd_ h2
 have O_w:=hd_ ho
 have T_w:=hd_ (Two.refl B G1 G2 w)
 have HNE:=hd_ hne
 have hg1:=(gz_ h1).1
 have hg2:=(gz_ h2).1
 clear h1 h2 ho hne
 go_enter Try.func13,Try.ntmps13
 go_upto_region 1 with fail
 refine nm_ ?_
 intro w1 hw
 obtain ⟨KB,hKB⟩ : ∃ v,v = w.heap.size:=⟨_,rfl⟩
 obtain ⟨MB,hMB⟩ : ∃ v,v = w.heap.size + 1:=⟨_,rfl⟩
 have HK_w1 : Hid (w1.heap[KB]? = some (.cells #[.int .i64 b.t,.int .i64 b.n,.int .i64 b.w,.slice C1 b.cs.length q1,.slice C2 b.hs.length q2,.slice C3 b.os.length q3] 34 (0,0))):=hd_ (by rw [hw,hKB];exact zqc (by simp) (zqm rfl))
 have HM_w1 : Hid (w1.heap[MB]? = some (.cells #[.int .i64 e.Kind,.int .i64 e.Key,.int .i64 e.Ch,.int .i64 e.To,.int .i64 e.Amt,.int .i64 e.Fee,.bool e.Yes] 37 (0,0))):=hd_ (by rw [hw,hMB];exact zqm (by first | rfl | (simp;done)))
 have HN_w1 : Hid (w1.heap[G1]? = some (.cells #[.int .i64 n] 3 (0,0))):=hd_ (by rw [hw];exact zqc (by have:=(gz_ HN_w.out).1;simp;omega) (zqc (gz_ HN_w.out).1 HN_w.out))
 have HS_w1 : Hid (w1.heap[G2]? = some (.cells #[.int .i64 s] 3 (0,0))):=hd_ (by rw [hw];exact zqc (by have:=(gz_ HS_w.out).1;simp;omega) (zqc (gz_ HS_w.out).1 HS_w.out))
 have O_w1 : Hid (OwB w1 B2 b C1 C2 C3 q1 q2 q3):=hd_ (by rw [hw];exact (O_w.out.alloc _).alloc _)
 have T_w1 : Hid (Two B G1 G2 w w1):=hd_ (by rw [hw];exact T_w.out.trans (Two.below (((Below.refl _ _).alloc (Nat.le_refl _) _).alloc (by simp) _) (by omega)))
 have HNMK : Hid (G1 ≠ KB∧G1 ≠ MB∧G2 ≠ KB∧G2 ≠ MB∧B ≤ w1.heap.size):=hd_ ⟨by omega,by omega,by omega,by omega,by have:=T_w1.out.b.size;omega⟩
 try rw [← hMB]
 try rw [← hKB]
 clear hw hKB hMB
 have N0 : w1.cell? ⟨G1,0,none⟩ = some (.int .i64 n):=zqa HN_w1.out 0
 have Nf:=zxb HN_w1.out
 have Nz:=(gz_ HN_w1.out).1
 have S0 : w1.cell? ⟨G2,0,none⟩ = some (.int .i64 s):=zqa HS_w1.out 0
 have Sf:=zxb HS_w1.out
 have Sz:=(gz_ HS_w1.out).1
 obtain ⟨K0,K1,K2,K3,K4,K5,Kf,Kz⟩:=box6_ HK_w1.out
 obtain ⟨M0,M1,M2,M3,M4,M5,M6,Mf,Mz⟩:=box7_ HM_w1.out
 cases t1 : (e.Kind == 10)
 ·
  go_wp2_with fail
  go_end0
  exact ⟨rfl,⟨n,s,by rw [t1];exact rtIn_off _ _ _,HN_w1.out,HS_w1.out⟩,T_w1.out⟩
 ·
  obtain ⟨i,hlt,hix,hfold⟩:=hf (eq_of_beq t1)
  have HIX:=hd_ hix
  have HFD:=hd_ hfold
  clear hix hfold hf
  have jx0 : (0 : Int) ≤ (i : Int):=by omega
  have jx1 : (i : Int) < (b.os.length : Int):=by omega
  obtain ⟨bc,offc,hA3,hbC,c0,c1,c2,c3,c4⟩:=Circle.rd O_w1.out.rd.o hlt
  clear c0 c1 c2 c3 c4 hbC
  obtain ⟨g,hA,hBg⟩:=O_w1.out.o.headW (by rw [List.length_map];omega)
  subst hA
  clear hA3
  clear N0 S0 K0 K1 K2 K3 K4 K5 M0 M1 M2 M3 M4 M5 M6 Nf Nz Sf Sz Kf Kz Mf Mz
  have N0 : w1.cell? ⟨G1,0,none⟩ = some (.int .i64 n):=zqa HN_w1.out 0
  have Nf:=zxb HN_w1.out
  have Nz:=(gz_ HN_w1.out).1
  have S0 : w1.cell? ⟨G2,0,none⟩ = some (.int .i64 s):=zqa HS_w1.out 0
  have Sf:=zxb HS_w1.out
  have Sz:=(gz_ HS_w1.out).1
  obtain ⟨K0,K1,K2,K3,K4,K5,Kf,Kz⟩:=box6_ HK_w1.out
  obtain ⟨M0,M1,M2,M3,M4,M5,M6,Mf,Mz⟩:=box7_ HM_w1.out
  go_upto_region 3 with fail
  refine nm_ ?_
  intro w2 hw
  have HN_w2 : Hid (w2.heap[G1]? = some (.cells #[.int .i64 (wrap64 (n + 1))] 3 (0,0))):=hd_ (by rw [hw];exact zqd HN_w1.out)
  have HS_w2 : Hid (w2.heap[G2]? = some (.cells #[.int .i64 s] 3 (0,0))):=hd_ (by rw [hw];exact zqh (fun e9 => HNE.out e9.symm) HS_w1.out)
  have HK_w2 : Hid (w2.heap[KB]? = some (.cells #[.int .i64 b.t,.int .i64 b.n,.int .i64 b.w,.slice C1 b.cs.length q1,.slice C2 b.hs.length q2,.slice (some ⟨g,0,none⟩) b.os.length q3] 34 (0,0))):=hd_ (by rw [hw];exact zqh (fun e9 => HNMK.out.1 e9.symm) HK_w1.out)
  have HM_w2 : Hid (w2.heap[MB]? = some (.cells #[.int .i64 e.Kind,.int .i64 e.Key,.int .i64 e.Ch,.int .i64 e.To,.int .i64 e.Amt,.int .i64 e.Fee,.bool e.Yes] 37 (0,0))):=hd_ (by rw [hw];exact zqh (fun e9 => HNMK.out.2.1 e9.symm) HM_w1.out)
  have O_w2 : Hid (OwB w2 B2 b C1 C2 (some ⟨g,0,none⟩) q1 q2 q3):=hd_ (by rw [hw];exact O_w1.out.farB hl1 _ _)
  have T_w2 : Hid (Two B G1 G2 w w2):=hd_ (by rw [hw];exact T_w1.out.trans (Two.set1 hB1 _))
  clear N0 S0 K0 K1 K2 K3 K4 K5 M0 M1 M2 M3 M4 M5 M6 Nf Nz Sf Sz Kf Kz Mf Mz
  clear hw
  have N0 : w2.cell? ⟨G1,0,none⟩ = some (.int .i64 (wrap64 (n + 1))):=zqa HN_w2.out 0
  have Nf:=zxb HN_w2.out
  have Nz:=(gz_ HN_w2.out).1
  have S0 : w2.cell? ⟨G2,0,none⟩ = some (.int .i64 s):=zqa HS_w2.out 0
  have Sf:=zxb HS_w2.out
  have Sz:=(gz_ HS_w2.out).1
  obtain ⟨K0,K1,K2,K3,K4,K5,Kf,Kz⟩:=box6_ HK_w2.out
  obtain ⟨M0,M1,M2,M3,M4,M5,M6,Mf,Mz⟩:=box7_ HM_w2.out
  have fc : w2.cell? ⟨g,i * 5 + 4,none⟩ = some (.int .i64 b.os[i].Fee):=O_w2.out.o.cellAt (show (b.os.map Circle.cells)[i]? = some b.os[i].cells by rw [List.getElem?_map,List.getElem?_eq_getElem hlt];rfl) (j:=4) (by decide)
  refine zxd (fun w' => w'.cell? ⟨G1,0,none⟩ = some (.int .i64 (wrap64 (n + 1)))∧w'.cell? ⟨G2,0,none⟩ = some (.int .i64 s)∧w'.cell? ⟨KB,0,none⟩ = some (.int .i64 b.t)∧w'.cell? ⟨KB,1,none⟩ = some (.int .i64 b.n)∧w'.cell? ⟨KB,2,none⟩ = some (.int .i64 b.w)∧w'.cell? ⟨KB,3,none⟩ = some (.slice C1 b.cs.length q1)∧w'.cell? ⟨KB,4,none⟩ = some (.slice C2 b.hs.length q2)∧w'.cell? ⟨KB,5,none⟩ = some (.slice (some ⟨g,0,none⟩) b.os.length q3)∧w'.cell? ⟨MB,0,none⟩ = some (.int .i64 e.Kind)∧w'.cell? ⟨MB,1,none⟩ = some (.int .i64 e.Key)∧w'.cell? ⟨MB,2,none⟩ = some (.int .i64 e.Ch)∧w'.cell? ⟨MB,3,none⟩ = some (.int .i64 e.To)∧w'.cell? ⟨MB,4,none⟩ = some (.int .i64 e.Amt)∧w'.cell? ⟨MB,5,none⟩ = some (.int .i64 e.Fee)∧w'.cell? ⟨MB,6,none⟩ = some (.bool e.Yes)∧w'.cell? ⟨g,i * 5 + 4,none⟩ = some (.int .i64 b.os[i].Fee)) [(0,some 11,false,none),(1,some 12,false,none),(2,some 13,false,none),(3,some 14,false,none),(4,some 15,false,none),(5,some 16,false,none),(6,some 17,true,none),(7,some 18,false,none),(8,some 19,false,none),(9,some 20,false,none),(10,some 21,false,none)] rfl (by kernel_rfl) (by kernel_rfl) (by kernel_rfl) (by kernel_rfl) (by kernel_rfl) (by kernel_rfl) ⟨N0,S0,K0,K1,K2,K3,K4,K5,M0,M1,M2,M3,M4,M5,M6,fc⟩ (fun hHeld => ?_)
  obtain ⟨w3,hwd⟩ : ∃ wd,w2.drew = wd:=⟨_,rfl⟩
  have HN_w3 : Hid (w3.heap[G1]? = some (.cells #[.int .i64 (wrap64 (n + 1))] 3 (0,0))):=hd_ (by rw [← hwd];exact zqe HN_w2.out)
  have HS_w3 : Hid (w3.heap[G2]? = some (.cells #[.int .i64 s] 3 (0,0))):=hd_ (by rw [← hwd];exact zqe HS_w2.out)
  have HK_w3 : Hid (w3.heap[KB]? = some (.cells #[.int .i64 b.t,.int .i64 b.n,.int .i64 b.w,.slice C1 b.cs.length q1,.slice C2 b.hs.length q2,.slice (some ⟨g,0,none⟩) b.os.length q3] 34 (0,0))):=hd_ (by rw [← hwd];exact zqe HK_w2.out)
  have HM_w3 : Hid (w3.heap[MB]? = some (.cells #[.int .i64 e.Kind,.int .i64 e.Key,.int .i64 e.Ch,.int .i64 e.To,.int .i64 e.Amt,.int .i64 e.Fee,.bool e.Yes] 37 (0,0))):=hd_ (by rw [← hwd];exact zqe HM_w2.out)
  have O_w3 : Hid (OwB w3 B2 b C1 C2 (some ⟨g,0,none⟩) q1 q2 q3):=hd_ (by rw [← hwd];exact O_w2.out.drew)
  have T_w3 : Hid (Two B G1 G2 w w3):=hd_ (by rw [← hwd];exact T_w2.out.drew)
  clear N0 S0 K0 K1 K2 K3 K4 K5 M0 M1 M2 M3 M4 M5 M6 Nf Nz Sf Sz Kf Kz Mf Mz
  clear fc
  rw [hwd] at hHeld ⊢
  clear hwd
  have N0 : w3.cell? ⟨G1,0,none⟩ = some (.int .i64 (wrap64 (n + 1))):=zqa HN_w3.out 0
  have Nf:=zxb HN_w3.out
  have Nz:=(gz_ HN_w3.out).1
  have S0 : w3.cell? ⟨G2,0,none⟩ = some (.int .i64 s):=zqa HS_w3.out 0
  have Sf:=zxb HS_w3.out
  have Sz:=(gz_ HS_w3.out).1
  obtain ⟨K0,K1,K2,K3,K4,K5,Kf,Kz⟩:=box6_ HK_w3.out
  obtain ⟨M0,M1,M2,M3,M4,M5,M6,Mf,Mz⟩:=box7_ HM_w3.out
  have fc : w3.cell? ⟨g,i * 5 + 4,none⟩ = some (.int .i64 b.os[i].Fee):=O_w3.out.o.cellAt (show (b.os.map Circle.cells)[i]? = some b.os[i].cells by rw [List.getElem?_map,List.getElem?_eq_getElem hlt];rfl) (j:=4) (by decide)
  refine tk_ ?_
  refine Sq.step rfl (by rfl) (fun K hK => ?_)
  go_simp
  refine (i_circleAt b.t b.n b.w b.cs b.hs b.os _ _ _ _ _ _ e.Key _ (by omega) O_w3.out.rd).mono ?_
  rintro e' w4 ⟨rfl,hb⟩
  rw [HIX.out]
  have HN_w4 : Hid (w4.heap[G1]? = some (.cells #[.int .i64 (wrap64 (n + 1))] 3 (0,0))):=hd_ (zqb hb (gz_ HN_w3.out).1 HN_w3.out)
  have HS_w4 : Hid (w4.heap[G2]? = some (.cells #[.int .i64 s] 3 (0,0))):=hd_ (zqb hb (gz_ HS_w3.out).1 HS_w3.out)
  have HK_w4 : Hid (w4.heap[KB]? = some (.cells #[.int .i64 b.t,.int .i64 b.n,.int .i64 b.w,.slice C1 b.cs.length q1,.slice C2 b.hs.length q2,.slice (some ⟨g,0,none⟩) b.os.length q3] 34 (0,0))):=hd_ (zqb hb (gz_ HK_w3.out).1 HK_w3.out)
  have HM_w4 : Hid (w4.heap[MB]? = some (.cells #[.int .i64 e.Kind,.int .i64 e.Key,.int .i64 e.Ch,.int .i64 e.To,.int .i64 e.Amt,.int .i64 e.Fee,.bool e.Yes] 37 (0,0))):=hd_ (zqb hb (gz_ HM_w3.out).1 HM_w3.out)
  have O_w4 : Hid (OwB w4 B2 b C1 C2 (some ⟨g,0,none⟩) q1 q2 q3):=hd_ (O_w3.out.below hb)
  have T_w4 : Hid (Two B G1 G2 w w4):=hd_ (T_w3.out.trans (Two.below hb (by have:=T_w3.out.b.size;omega)))
  clear N0 S0 K0 K1 K2 K3 K4 K5 M0 M1 M2 M3 M4 M5 M6 Nf Nz Sf Sz Kf Kz Mf Mz
  clear fc hb
  have N0 : w4.cell? ⟨G1,0,none⟩ = some (.int .i64 (wrap64 (n + 1))):=zqa HN_w4.out 0
  have Nf:=zxb HN_w4.out
  have Nz:=(gz_ HN_w4.out).1
  have S0 : w4.cell? ⟨G2,0,none⟩ = some (.int .i64 s):=zqa HS_w4.out 0
  have Sf:=zxb HS_w4.out
  have Sz:=(gz_ HS_w4.out).1
  obtain ⟨K0,K1,K2,K3,K4,K5,Kf,Kz⟩:=box6_ HK_w4.out
  obtain ⟨M0,M1,M2,M3,M4,M5,M6,Mf,Mz⟩:=box7_ HM_w4.out
  have fc : w4.cell? ⟨g,i * 5 + 4,none⟩ = some (.int .i64 b.os[i].Fee):=O_w4.out.o.cellAt (show (b.os.map Circle.cells)[i]? = some b.os[i].cells by rw [List.getElem?_map,List.getElem?_eq_getElem hlt];rfl) (j:=4) (by decide)
  go_simp
  refine hK.out _ _ ⟨N0,S0,K0,K1,K2,K3,K4,K5,M0,M1,M2,M3,M4,M5,M6,fc⟩ (fun hHeld => ?_)
  clear hK K
  refine tk_ ?_
  refine Sq.done ?_
  intro KK hKK
  go_simp
  refine hKK _ _ (NoPanic.normal ?_)
  refine nm_ ?_
  intro w5 hw
  have HN_w5 : Hid (w5.heap[G1]? = some (.cells #[.int .i64 (wrap64 (n + 1))] 3 (0,0))):=hd_ (by rw [hw];exact zqh HNE.out HN_w4.out)
  have HS_w5 : Hid (w5.heap[G2]? = some (.cells #[.int .i64 (IntKind.i64.wrap (s + b.os[i].Fee))] 3 (0,0))):=hd_ (by rw [hw];exact zqd HS_w4.out)
  have HK_w5 : Hid (w5.heap[KB]? = some (.cells #[.int .i64 b.t,.int .i64 b.n,.int .i64 b.w,.slice C1 b.cs.length q1,.slice C2 b.hs.length q2,.slice (some ⟨g,0,none⟩) b.os.length q3] 34 (0,0))):=hd_ (by rw [hw];exact zqh (fun e9 => HNMK.out.2.2.1 e9.symm) HK_w4.out)
  have HM_w5 : Hid (w5.heap[MB]? = some (.cells #[.int .i64 e.Kind,.int .i64 e.Key,.int .i64 e.Ch,.int .i64 e.To,.int .i64 e.Amt,.int .i64 e.Fee,.bool e.Yes] 37 (0,0))):=hd_ (by rw [hw];exact zqh (fun e9 => HNMK.out.2.2.2.1 e9.symm) HM_w4.out)
  have O_w5 : Hid (OwB w5 B2 b C1 C2 (some ⟨g,0,none⟩) q1 q2 q3):=hd_ (by rw [hw];exact O_w4.out.farB hl2 _ _)
  have T_w5 : Hid (Two B G1 G2 w w5):=hd_ (by rw [hw];exact T_w4.out.trans (Two.set2 hB2 _))
  clear N0 S0 K0 K1 K2 K3 K4 K5 M0 M1 M2 M3 M4 M5 M6 Nf Nz Sf Sz Kf Kz Mf Mz
  clear hw fc
  go_wp2_with fail
  go_end0
  exact ⟨rfl,⟨wrap64 (n + 1),wrap64 (s + b.os[i].Fee),by rw [t1];exact HFD.out,HN_w5.out,by rw [← IntWalk.i64_left (s + b.os[i].Fee)];exact HS_w5.out⟩,T_w5.out⟩
end Go.Proofs.Ytdbmkfmenfcbiaa
namespace Go.Proofs.Ytdbmkfmenfcbiaa
open Go.RowKit Go.Deep
theorem OwB.pastL {w w' : World} {B g : Nat} {b : Bk} {C1 C2 C3 : Option Addr} {q1 q2 q3 : Nat} (h : OwB w B b C1 C2 C3 q1 q2 q3) (hg : w.grownBy w' (some g)) (hB : g < B) : OwB w' B b C1 C2 C3 q1 q2 q3:=⟨h.c.pastL hg hB,h.h.pastL hg hB,h.o.pastL hg hB⟩
theorem s_BookNew (w : World) : Calls Try.prog 9 #[] w fun e w' => e = .returned (.agg #[.int .i64 0,.int .i64 1,.int .i64 0,.slice none 0 0,.slice none 0 0,.slice none 0 0])∧Below w.heap.size w w':=by
  go_enter Try.func9,Try.ntmps9
  go_wp2_with fail
  refine name_ret (fun wz hw => ?_)
  have hz : wz.heap[w.heap.size]? = some (.cells #[.int .i64 0,.int .i64 1,.int .i64 0,.slice none 0 0,.slice none 0 0,.slice none 0 0] 34 (0,0)):=by rw [hw];first | exact zqm rfl | exact zqd (zqd (zqd (zqd (zqd (zqd (zqm rfl))))))
  have hB : Below w.heap.size w wz:=by rw [hw];exact bl_
  clear hw
  have r0 : wz.cell? ⟨w.heap.size,0,none⟩ = some (.int .i64 0):=zqa hz 0
  have r1 : wz.cell? ⟨w.heap.size,1,none⟩ = some (.int .i64 1):=zqa hz 1
  have r2 : wz.cell? ⟨w.heap.size,2,none⟩ = some (.int .i64 0):=zqa hz 2
  have r3 : wz.cell? ⟨w.heap.size,3,none⟩ = some (.slice none 0 0):=zqa hz 3
  have r4 : wz.cell? ⟨w.heap.size,4,none⟩ = some (.slice none 0 0):=zqa hz 4
  have r5 : wz.cell? ⟨w.heap.size,5,none⟩ = some (.slice none 0 0):=zqa hz 5
  exact bodyPost_ret (v:=.agg #[.int .i64 0,.int .i64 1,.int .i64 0,.slice none 0 0,.slice none 0 0,.slice none 0 0]) (by simp [results,Try.results9,go_sem,r0,r1,r2,r3,r4,r5]) rfl ⟨rfl,hB⟩
end Go.Proofs.Ytdbmkfmenfcbiaa
namespace Go.Proofs.Ytdbmkfmenfcbiaa
open Go.RowKit Go.Deep
set_option maxRecDepth 100000 in
set_option maxHeartbeats 4000000 in
theorem s_RoundTrips (es : List Event) (AE : Option Addr) (pe : Nat) (w : World) (hle : es.length ≤ 1048576) (hre : Rd w w.heap.size 7 AE (es.map Event.cells)) :
  Calls Try.prog 5 #[.slice AE es.length pe] w fun e' w' => e' = .returned (.tuple #[.int .i64 (rtF es).1.1,.int .i64 (rtF es).1.2])∧Below w.heap.size w w':=by
 have HRe:=hd_ hre
 clear hre
 go_enter Try.func5,Try.ntmps5
 go_wp2_with fail
 refine (s_BookNew _).mono ?_
 rintro e' w1 ⟨rfl,hb⟩
 have HB1:=hd_ hb
 have hz1:=hb.size
 clear hb
 go_upto_region 4 with fail
 refine nm_ ?_
 intro wl hw
 obtain ⟨NB,hNB⟩ : ∃ v,v = w1.heap.size:=⟨_,rfl⟩
 have HN : Hid (wl.heap[NB]? = some (.cells #[.int .i64 0,.int .i64 1,.int .i64 0,.slice none 0 0,.slice none 0 0,.slice none 0 0] 34 (0,0))):=hd_ (by rw [hw,hNB];exact zqm rfl)
 have HBl : Hid (Below w.heap.size w wl):=hd_ (by rw [hw];exact HB1.out.alloc hz1 _)
 have HGN : Hid (w.heap.size ≤ NB):=hd_ (by omega)
 try rw [← hNB]
 clear hw hNB HB1 hz1
 go_wp2_with fail
 go_loopw [4,5,17] (fun vn vs i wr => ∃ (k : Nat) (n s : Int) (b : Bk) (C1 C2 C3 : Option Addr) (q1 q2 q3 : Nat),k ≤ es.length∧i = .int .i64 k∧vn = .int .i64 n∧vs = .int .i64 s∧Hid ((es.take k).foldl rtStep ((0,0),rtBk) = ((n,s),b))∧Hid (LenOk b)∧Hid (OwB wr w.heap.size b C1 C2 C3 q1 q2 q3)∧Hid (wr.heap[NB]? = some (.cells #[.int .i64 b.t,.int .i64 b.n,.int .i64 b.w,.slice C1 b.cs.length q1,.slice C2 b.hs.length q2,.slice C3 b.os.length q3] 34 (0,0)))∧Hid (Below w.heap.size w wr)) (fun _ _ i _ => es.length - (intOf i).toNat)
 case atStart => exact ⟨0,0,0,rtBk,none,none,none,0,0,0,Nat.zero_le _,rfl,rfl,rfl,hd_ rfl,hd_ ⟨by decide,by decide,by decide⟩,hd_ (OwB.nil_ _ _ _ _ _),HN,HBl⟩
 case round =>
  clear HN HBl
  obtain ⟨k,n,s,b,C1,C2,C3,q1,q2,q3,hk,rfl,rfl,rfl,HF,HL,HO,HN,HB⟩:=hrel
  have hbz:=HB.out.size
  by_cases hlt : k < es.length
  ·
   obtain ⟨bb,off,hA1,hbB,e0,e1,e2,e3,e4,e5,e6⟩:=Event.rd (HRe.out.below HB.out) hlt
   subst hA1
   have Fx:=hd_ (zxc es rtStep ((0,0),rtBk) hlt)
   have ix0 : (0 : Int) ≤ (k : Int):=by omega
   have ix1 : (k : Int) < (es.length : Int):=by omega
   obtain ⟨l1,l2,l3⟩:=HL.out
   go_upto_region 7 with fail
   refine nm_ ?_
   intro w3 hw
   obtain ⟨EB,hEB⟩ : ∃ v,v = wr.heap.size:=⟨_,rfl⟩
   have HE3 : Hid (w3.heap[EB]? = some (.cells #[.int .i64 es[k].Kind,.int .i64 es[k].Key,.int .i64 es[k].Ch,.int .i64 es[k].To,.int .i64 es[k].Amt,.int .i64 es[k].Fee,.bool es[k].Yes] 37 (0,0))):=hd_ (by rw [hw,hEB];exact zqm rfl)
   have HO3 : Hid (OwB w3 w.heap.size b C1 C2 C3 q1 q2 q3):=hd_ (by rw [hw];exact HO.out.alloc _)
   have HN3 : Hid (w3.heap[NB]? = some (.cells #[.int .i64 b.t,.int .i64 b.n,.int .i64 b.w,.slice C1 b.cs.length q1,.slice C2 b.hs.length q2,.slice C3 b.os.length q3] 34 (0,0))):=hd_ (by rw [hw];exact zqc (gz_ HN.out).1 HN.out)
   have HB3 : Hid (Below w.heap.size w w3):=hd_ (by rw [hw];exact HB.out.alloc hbz _)
   try rw [← hEB]
   clear hw hEB e0 e1 e2 e3 e4 e5 e6 HO HN HB hbz
   obtain ⟨_,n0,n1,n2,n3,n4,n5,nf,nz⟩:=own6 (g:=NB) (Below.refl _ w3) (gz_ HN3.out).1 HN3.out
   obtain ⟨E0,E1,E2,E3,E4,E5,E6,-,-⟩:=box7_ HE3.out
   go_wp2_with fail
   refine (s_Apply b es[k] _ _ _ _ _ _ _ (by omega) (by omega) (by omega) HO3.out.rd).mono ?_
   rintro e' w4 ⟨b2,L2,id,D1,D2,D3,D4,s1,s2,s3,s4,rfl,hob,hol,hb,rfl,rfl,-⟩
   clear n0 n1 n2 n3 n4 n5 nf nz E0 E1 E2 E3 E4 E5 E6
   obtain ⟨o,ho⟩ : ∃ o,applyS b es[k] = o:=⟨_,rfl⟩
   have HNX : Hid (rtStep ((n,s),b) es[k] = if o.code = 0 then (b.os.foldl (rtIn (es[k].Kind == 10) es[k].Key) (n,s),o.b) else ((n,s),b)):=hd_ (by unfold rtStep;rw [ho])
   have hl2:=applyS_len b es[k]
   rw [ho] at hob hol hl2 ⊢
   have HL2:=hd_ hl2
   have HO2 : Hid (OwB w4 w.heap.size o.b D1 D2 D3 s1 s2 s3):=hd_ (hob.more HB3.out.size)
   have HO4:=hd_ (HO3.out.below hb)
   have HN4:=hd_ (zqb hb (gz_ HN3.out).1 HN3.out)
   have HE4:=hd_ (zqb hb (gz_ HE3.out).1 HE3.out)
   have HB4:=hd_ (HB3.out.trans (hb.mono HB3.out.size))
   clear ho hob hol hl2 hb HO3 HN3 HE3 HB3
   go_upto_region 8 with fail
   refine nm_ ?_
   intro w5 hw
   obtain ⟨MB,hMB⟩ : ∃ v,v = w4.heap.size:=⟨_,rfl⟩
   have hz4:=HB4.out.size
   have HM5 : Hid (w5.heap[MB]? = some (.cells #[.int .i64 o.b.t,.int .i64 o.b.n,.int .i64 o.b.w,.slice D1 o.b.cs.length s1,.slice D2 o.b.hs.length s2,.slice D3 o.b.os.length s3] 34 (0,0))):=hd_ (by rw [hw,hMB];exact zqc (by simp) (zqm rfl))
   have HO5 : Hid (OwB w5 w.heap.size b C1 C2 C3 q1 q2 q3):=hd_ (by rw [hw];exact (HO4.out.alloc _).alloc _)
   have HP5 : Hid (OwB w5 w.heap.size o.b D1 D2 D3 s1 s2 s3):=hd_ (by rw [hw];exact (HO2.out.alloc _).alloc _)
   have HN5 : Hid (w5.heap[NB]? = some (.cells #[.int .i64 b.t,.int .i64 b.n,.int .i64 b.w,.slice C1 b.cs.length q1,.slice C2 b.hs.length q2,.slice C3 b.os.length q3] 34 (0,0))):=hd_ (by have h9:=(gz_ HN4.out).1;rw [hw];exact zqc (by simp;omega) (zqc h9 HN4.out))
   have HE5 : Hid (w5.heap[EB]? = some (.cells #[.int .i64 es[k].Kind,.int .i64 es[k].Key,.int .i64 es[k].Ch,.int .i64 es[k].To,.int .i64 es[k].Amt,.int .i64 es[k].Fee,.bool es[k].Yes] 37 (0,0))):=hd_ (by have h9:=(gz_ HE4.out).1;rw [hw];exact zqc (by simp;omega) (zqc h9 HE4.out))
   have HB5 : Hid (Below w.heap.size w w5):=hd_ (by rw [hw];exact (HB4.out.alloc hz4 _).alloc (by simp;omega) _)
   have HNM : Hid (NB ≠ MB):=hd_ (by have h9:=(gz_ HN4.out).1;omega)
   try rw [← hMB]
   clear hw hMB hz4 HO2 HO4 HN4 HE4 HB4
   cases t0 : (o.code != 0)
   ·
    have hc0 : o.code = 0:=by simpa using t0
    have HNX2 : Hid (rtStep ((n,s),b) es[k] = (b.os.foldl (rtIn (es[k].Kind == 10) es[k].Key) (n,s),o.b)):=hd_ (by rw [HNX.out,if_pos hc0])
    clear hc0 HNX
    obtain ⟨_,n0,n1,n2,n3,n4,n5,nf,nz⟩:=own6 (g:=NB) (Below.refl _ w5) (gz_ HN5.out).1 HN5.out
    go_wp2_with fail
    clear n0 n1 n2 n3 n4 n5 nf nz t0
    go_loopw [4,5,33] (fun vn vs i wr => ∃ (m : Nat) (n' s' : Int),m ≤ b.os.length∧i = .int .i64 m∧vn = .int .i64 n'∧vs = .int .i64 s'∧Hid ((b.os.take m).foldl (rtIn (es[k].Kind == 10) es[k].Key) (n,s) = (n',s'))∧Hid (OwB wr w.heap.size b C1 C2 C3 q1 q2 q3)∧Hid (OwB wr w.heap.size o.b D1 D2 D3 s1 s2 s3)∧Hid (wr.heap[NB]? = some (.cells #[.int .i64 b.t,.int .i64 b.n,.int .i64 b.w,.slice C1 b.cs.length q1,.slice C2 b.hs.length q2,.slice C3 b.os.length q3] 34 (0,0)))∧Hid (wr.heap[MB]? = some (.cells #[.int .i64 o.b.t,.int .i64 o.b.n,.int .i64 o.b.w,.slice D1 o.b.cs.length s1,.slice D2 o.b.hs.length s2,.slice D3 o.b.os.length s3] 34 (0,0)))∧Hid (wr.heap[EB]? = some (.cells #[.int .i64 es[k].Kind,.int .i64 es[k].Key,.int .i64 es[k].Ch,.int .i64 es[k].To,.int .i64 es[k].Amt,.int .i64 es[k].Fee,.bool es[k].Yes] 37 (0,0)))∧Hid (Below w.heap.size w wr)) (fun _ _ i _ => b.os.length - (intOf i).toNat)
    case atStart => exact ⟨0,n,s,Nat.zero_le _,rfl,rfl,rfl,hd_ rfl,HO5,HP5,HN5,HM5,HE5,HB5⟩
    case round =>
     clear HO5 HP5 HN5 HM5 HE5 HB5
     obtain ⟨m,n',s',hm,rfl,rfl,rfl,HG,HO6,HP6,HN6,HM6,HE6,HB6⟩:=hrel
     have hbz:=HB6.out.size
     by_cases hlm : m < b.os.length
     ·
      obtain ⟨bc,offc,hA3,hbC,c0,c1,c2,c3,c4⟩:=Circle.rd HO6.out.rd.o hlm
      subst hA3
      have Gx:=hd_ (zxc b.os (rtIn (es[k].Kind == 10) es[k].Key) (n,s) hlm)
      have jx0 : (0 : Int) ≤ (m : Int):=by omega
      have jx1 : (m : Int) < (b.os.length : Int):=by omega
      have E0 : wr.cell? ⟨EB,0,none⟩ = some (.int .i64 es[k].Kind):=zqa HE6.out 0
      have E1 : wr.cell? ⟨EB,1,none⟩ = some (.int .i64 es[k].Key):=zqa HE6.out 1
      have Ez:=(gz_ HE6.out).1
      cases t1 : (es[k].Kind == 10)
      ·
       have HS : Hid (rtIn (es[k].Kind == 10) es[k].Key (n',s') b.os[m] = (n',s')):=hd_ (by unfold rtIn;rw [t1];rfl)
       go_wp2_with fail
       go_roundw
       case rel => exact ⟨m + 1,n',s',by omega,by go_num,rfl,rfl,hd_ (by have h9:=Gx.out;rw [HG.out,HS.out,t1] at h9;exact h9),hd_ (HO6.out.alloc _),hd_ (HP6.out.alloc _),hd_ (zqc (gz_ HN6.out).1 HN6.out),hd_ (zqc (gz_ HM6.out).1 HM6.out),hd_ (zqc (gz_ HE6.out).1 HE6.out),hd_ (HB6.out.alloc hbz _)⟩
       case measure => simp [intOf];omega
      ·
       cases t2 : (b.os[m].Key == es[k].Key)
       ·
        have HS : Hid (rtIn (es[k].Kind == 10) es[k].Key (n',s') b.os[m] = (n',s')):=hd_ (by unfold rtIn;rw [t1,t2];rfl)
        go_wp2_with fail
        go_roundw
        case rel => exact ⟨m + 1,n',s',by omega,by go_num,rfl,rfl,hd_ (by have h9:=Gx.out;rw [HG.out,HS.out,t1] at h9;exact h9),hd_ (HO6.out.alloc _),hd_ (HP6.out.alloc _),hd_ (zqc (gz_ HN6.out).1 HN6.out),hd_ (zqc (gz_ HM6.out).1 HM6.out),hd_ (zqc (gz_ HE6.out).1 HE6.out),hd_ (HB6.out.alloc hbz _)⟩
        case measure => simp [intOf];omega
       ·
        have HS : Hid (rtIn (es[k].Kind == 10) es[k].Key (n',s') b.os[m] = (wrap64 (n' + 1),wrap64 (s' + b.os[m].Fee))):=hd_ (by unfold rtIn;rw [t1,t2];rfl)
        go_wp2_with fail
        go_roundw
        case rel => exact ⟨m + 1,_,_,by omega,by go_num,rfl,rfl,hd_ (by have h9:=Gx.out;rw [HG.out,HS.out,t1] at h9;exact h9),hd_ (HO6.out.alloc _),hd_ (HP6.out.alloc _),hd_ (zqc (gz_ HN6.out).1 HN6.out),hd_ (zqc (gz_ HM6.out).1 HM6.out),hd_ (zqc (gz_ HE6.out).1 HE6.out),hd_ (HB6.out.alloc hbz _)⟩
        case measure => simp [intOf];omega
     ·
      obtain rfl : m = b.os.length:=by omega
      have qg:=HG.out
      rw [List.take_length] at qg
      have HQ : Hid (rtStep ((n,s),b) es[k] = ((n',s'),o.b)):=hd_ (by rw [HNX2.out,qg])
      clear qg HG HNX2
      obtain ⟨_,n0,n1,n2,n3,n4,n5,nf,nz⟩:=own6 (g:=NB) (Below.refl _ wr) (gz_ HN6.out).1 HN6.out
      obtain ⟨_,m0,m1,m2,m3,m4,m5,mf,mz⟩:=own6 (g:=MB) (Below.refl _ wr) (gz_ HM6.out).1 HM6.out
      have hn1 : ¬ NB = MB:=HNM.out
      have hn2 : ¬ MB = NB:=fun e9 => HNM.out e9.symm
      go_upto_region 17 with fail
      clear hn1 hn2
      refine nm_ ?_
      intro w7 hw
      have hg7 : wr.grownBy w7 (some NB):=by rw [hw];exact zqg (zqg (zqg (zqg (zqg (zqg (World.grownBy.refl wr (some NB)) _ _) _ _) _ _) _ _) _ _) _ _
      have HN7 : Hid (w7.heap[NB]? = some (.cells #[.int .i64 o.b.t,.int .i64 o.b.n,.int .i64 o.b.w,.slice D1 o.b.cs.length s1,.slice D2 o.b.hs.length s2,.slice D3 o.b.os.length s3] 34 (0,0))):=hd_ (by rw [hw];exact zqd (zqd (zqd (zqd (zqd (zqd HN6.out))))))
      have HP7 : Hid (OwB w7 w.heap.size o.b D1 D2 D3 s1 s2 s3):=hd_ ⟨HP6.out.c.grown hg7 (Or.inr (HP6.out.c.ne_ HN6.out (by decide)).symm),HP6.out.h.grown hg7 (Or.inr (HP6.out.h.ne_ HN6.out (by decide)).symm),HP6.out.o.grown hg7 (Or.inr (HP6.out.o.ne_ HN6.out (by decide)).symm)⟩
      have HB7 : Hid (Below w.heap.size w w7):=hd_ (HB6.out.grown hg7 hbz (fun k9 e9 => by injection e9 with e9;have:=HGN.out;omega))
      clear hw hg7 n0 n1 n2 n3 n4 n5 nf nz m0 m1 m2 m3 m4 m5 mf mz HO6 HP6 HN6 HM6 HE6 HB6
      go_wp2_with fail
      go_roundw
      case rel => exact ⟨k + 1,n',s',o.b,D1,D2,D3,s1,s2,s3,by omega,by go_num,rfl,rfl,hd_ (by rw [Fx.out,HF.out,HQ.out]),HL2,HP7,HN7,HB7⟩
      case measure => simp [intOf];omega
   ·
    have hc0 : o.code ≠ 0:=by simpa using t0
    have HNX2 : Hid (rtStep ((n,s),b) es[k] = ((n,s),b)):=hd_ (by rw [HNX.out,if_neg hc0])
    clear hc0
    go_wp2_with fail
    go_roundw
    case rel => exact ⟨k + 1,n,s,b,C1,C2,C3,q1,q2,q3,by omega,by go_num,rfl,rfl,hd_ (by rw [Fx.out,HF.out,HNX2.out]),HL,HO5,HN5,HB5⟩
    case measure => simp [intOf];omega
  ·
   obtain rfl : k = es.length:=by omega
   have qf:=HF.out
   rw [List.take_length] at qf
   have HQ : Hid (rtF es = ((n,s),b)):=hd_ qf
   clear qf HF
   go_wp2_with fail
   go_ret2
   exact ⟨by rw [HQ.out];rfl,HB.out⟩
end Go.Proofs.Ytdbmkfmenfcbiaa

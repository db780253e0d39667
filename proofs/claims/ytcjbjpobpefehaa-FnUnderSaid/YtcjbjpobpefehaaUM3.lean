/- BookUi · BookVi · BookVs · SBusy: each text proves what its theorems say, with no conditions but theirs. -/
import Derived.Test.YtcjbjpobpefehaaRows
import Derived.Test.YtcjbjpobpefehaaUM1
import Derived.Test.YtcjbjpobpefehaaUBookOi
import Derived.IntWalk
import Derived.Test.YtcjbjpobpefehaaUBookOs
import Derived.Test.YtcjbjpobpefehaaUM2
import Derived.Test.YtcjbjpobpefehaaUScS
import Derived.BigQuiet
namespace Go.Proofs.Ytcjbjpobpefehaa
open Go.RowKit
set_option maxRecDepth 100000 in
set_option maxHeartbeats 2000000 in
theorem i_Under (bt bn bw : Int) (cs : List Chan) (hs : List Htlc) (os : List Circle) (A1 A2 A3 : Option Addr) (p1 p2 p3 : Nat) (ch : Int) (w : World) (hlc : cs.length ≤ 1048576) (hlh : hs.length ≤ 1048576) (hlo : os.length ≤ 1048576) (hr : RdBook w w.heap.size A1 cs A2 hs A3 os) :
  Calls Try.prog 10 #[.agg #[.int .i64 bt, .int .i64 bn, .int .i64 bw, .slice A1 cs.length p1, .slice A2 hs.length p2, .slice A3 os.length p3], .int .i64 ch] w fun e w' => e = .returned (.tuple #[.int .i64 (underOut bt bn bw cs hs os ch), .int .i64 (underIn bt bn bw cs hs os ch)]) ∧ Below w.heap.size w w' := by
 have HR := Lib.hid hr
 clear hr
 cases hb : bookB bt bn bw cs hs os
 ·
  have HB := Lib.hid hb
  have H1 := Lib.hid (show underOut bt bn bw cs hs os ch = 0 by simp [underOut, underOk, hb])
  have H2 := Lib.hid (show underIn bt bn bw cs hs os ch = 0 by simp [underIn, underOk, hb])
  clear hb
  go_enter Try.func10, Try.ntmps10
  go_wp2_with fail
  refine (i_BookOk bt bn bw cs hs os _ _ _ _ _ _ _ hlc hlh hlo ((HR.out.below (bl_)).more (by first | omega | (simp; omega) | (simp; done)))).mono ?_
  rintro e w1 ⟨rfl, hb1⟩
  have z1 := hb1.size
  try simp at z1
  rw [HB.out]
  go_wp2_with fail
  go_ret2
  exact ⟨by rw [H1.out, H2.out]; rfl, bl_⟩
 ·
  have HB := Lib.hid hb
  have HSM := Lib.hid (zvc hb).small
  cases hx : decide (chanIx cs ch < 0)
  ·
   have H1 := Lib.hid (show underOut bt bn bw cs hs os ch = outOf hs os ch by simp [underOut, underOk, hb, hx])
   have H2 := Lib.hid (show underIn bt bn bw cs hs os ch = inOf hs os ch by simp [underIn, underOk, hb, hx])
   clear hb
   go_enter Try.func10, Try.ntmps10
   go_wp2_with fail
   refine (i_BookOk bt bn bw cs hs os _ _ _ _ _ _ _ hlc hlh hlo ((HR.out.below (bl_)).more (by first | omega | (simp; omega) | (simp; done)))).mono ?_
   rintro e w1 ⟨rfl, hb1⟩
   have z1 := hb1.size
   try simp at z1
   rw [HB.out]
   obtain ⟨eh, e0, e1, e2, e3, e4, e5, ef, ezz⟩ := own6 (g := w.heap.size) hb1 (by first | omega | (simp; omega) | (simp; done)) (hp_)
   go_wp2_with fail
   refine (i_chanAt bt bn bw cs hs os _ _ _ _ _ _ ch _ hlc ((HR.out.below (bl_)).more (by first | omega | (simp; omega) | (simp; done)))).mono ?_
   rintro e w2 ⟨rfl, hb2⟩
   have z2 := hb2.size
   try simp at z2
   obtain ⟨fh, f0, f1, f2, f3, f4, f5, ff, fzz⟩ := own6 (g := w.heap.size) hb2 (by first | omega | (simp; omega) | (simp; done)) (hp_)
   go_wp2_with fail
   refine (i_transit bt bn bw cs hs os _ _ _ _ _ _ ch _ HSM.out ((HR.out.below (bl_)).more (by first | omega | (simp; omega) | (simp; done)))).mono ?_
   rintro e w3 ⟨rfl, hb3⟩
   have z3 := hb3.size
   try simp at z3
   go_wp2_with fail
   go_ret2
   exact ⟨by rw [H1.out, H2.out]; rfl, bl_⟩
  ·
   have H1 := Lib.hid (show underOut bt bn bw cs hs os ch = 0 by simp [underOut, underOk, hx])
   have H2 := Lib.hid (show underIn bt bn bw cs hs os ch = 0 by simp [underIn, underOk, hx])
   clear hb
   go_enter Try.func10, Try.ntmps10
   go_wp2_with fail
   refine (i_BookOk bt bn bw cs hs os _ _ _ _ _ _ _ hlc hlh hlo ((HR.out.below (bl_)).more (by first | omega | (simp; omega) | (simp; done)))).mono ?_
   rintro e w1 ⟨rfl, hb1⟩
   have z1 := hb1.size
   try simp at z1
   rw [HB.out]
   obtain ⟨eh, e0, e1, e2, e3, e4, e5, ef, ezz⟩ := own6 (g := w.heap.size) hb1 (by first | omega | (simp; omega) | (simp; done)) (hp_)
   go_wp2_with fail
   refine (i_chanAt bt bn bw cs hs os _ _ _ _ _ _ ch _ hlc ((HR.out.below (bl_)).more (by first | omega | (simp; omega) | (simp; done)))).mono ?_
   rintro e w2 ⟨rfl, hb2⟩
   have z2 := hb2.size
   try simp at z2
   go_wp2_with fail
   go_ret2
   exact ⟨by rw [H1.out, H2.out]; rfl, bl_⟩
end Go.Proofs.Ytcjbjpobpefehaa
namespace Go.Proofs.Ytcjbjpobpefehaa
open Go.RowKit
set_option maxRecDepth 100000 in
set_option maxHeartbeats 4000000 in
theorem i_Total (bt bn bw : Int) (cs : List Chan) (hs : List Htlc) (os : List Circle) (A1 A2 A3 : Option Addr) (p1 p2 p3 : Nat) (w : World) (hlc : cs.length ≤ 1048576) (hlh : hs.length ≤ 1048576) (hlo : os.length ≤ 1048576) (hr : RdBook w w.heap.size A1 cs A2 hs A3 os) :
  Calls Try.prog 7 #[.agg #[.int .i64 bt, .int .i64 bn, .int .i64 bw, .slice A1 cs.length p1, .slice A2 hs.length p2, .slice A3 os.length p3]] w fun e w' => e = .returned (.int .i64 (totalOf bt bn bw cs hs os)) ∧ Below w.heap.size w w' := by
 have HR := Lib.hid hr
 have HCH := Lib.hid hr.c
 clear hr
 cases hb : bookB bt bn bw cs hs os
 ·
  have HB := Lib.hid hb
  have H1 := Lib.hid (show totalOf bt bn bw cs hs os = 0 by simp [totalOf, hb])
  clear hb
  go_enter Try.func7, Try.ntmps7
  go_wp2_with fail
  refine (i_BookOk bt bn bw cs hs os _ _ _ _ _ _ _ hlc hlh hlo ((HR.out.below (bl_)).more (by first | omega | (simp; omega) | (simp; done)))).mono ?_
  rintro e w1 ⟨rfl, hb1⟩
  have z1 := hb1.size
  try simp at z1
  rw [HB.out]
  go_wp2_with fail
  go_ret
  exact ⟨by first | (rw [H1.out]; done) | (rw [H1.out]; rfl), bl_⟩
 ·
  have HB := Lib.hid hb
  have HF := Lib.hid (zvc hb)
  have H1 := Lib.hid (show totalOf bt bn bw cs hs os = cs.foldl (totF hs os) bw by simp [totalOf, hb])
  clear hb
  go_enter Try.func7, Try.ntmps7
  go_wp2_with fail
  refine (i_BookOk bt bn bw cs hs os _ _ _ _ _ _ _ hlc hlh hlo ((HR.out.below (bl_)).more (by first | omega | (simp; omega) | (simp; done)))).mono ?_
  rintro e w1 ⟨rfl, hb1⟩
  have z1 := hb1.size
  try simp at z1
  rw [HB.out]
  obtain ⟨eh, e0, e1, e2, e3, e4, e5, ef, ezz⟩ := own6 (g := w.heap.size) hb1 (by first | omega | (simp; omega) | (simp; done)) (hp_)
  have EH := Lib.hid eh
  have hA1 : Below w.heap.size w w1 := bl_
  clear eh hb1
  go_wp2_with fail
  clear e0 e1 e2 e3 e4 e5 ef
  go_loopw [3, 16] (fun n i wr => ∃ k : Nat, k ≤ cs.length ∧ i = .int .i64 k ∧ n = .int .i64 ((cs.take k).foldl (totF hs os) bw) ∧ wr.heap[w.heap.size]? = some (.cells #[.int .i64 bt, .int .i64 bn, .int .i64 bw, .slice A1 cs.length p1, .slice A2 hs.length p2, .slice A3 os.length p3] 27) ∧ Below w.heap.size w wr) (fun _ i _ => cs.length - (intOf i).toNat)
  case atStart => exact ⟨0, Nat.zero_le _, rfl, rfl, EH.out, hA1⟩
  case round =>
   clear hA1
   obtain ⟨k, hk, rfl, rfl, hbox, hbw⟩ := hrel
   have hbz := hbw.size
   obtain ⟨eh, e0, e1, e2, e3, e4, e5, ef, ezz2⟩ := own6 (Below.refl wr.heap.size wr) (gz_ hbox).1 hbox
   have EB := Lib.hid eh
   clear eh hbox
   by_cases hlt : k < cs.length
   ·
    obtain ⟨b, off, rfl, hbB, c0, c1, c2, c3, c4, c5, c6⟩ := Chan.rd (HCH.out.below hbw) hlt
    have hbr : b < wr.heap.size := by omega
    have hcl := HF.out.cl
    obtain ⟨n1, n2⟩ := HF.out.tot k hk
    obtain ⟨l1, l2⟩ := HF.out.local_ hlt
    obtain ⟨o1, o2⟩ := HF.out.small.out_bd cs[k].Id
    have TR := fun W q => i_transit bt bn bw cs hs os (some ⟨b, off, none⟩) A2 A3 p1 p2 p3 cs[k].Id W HF.out.small q
    have hst : (cs.take (k + 1)).foldl (totF hs os) bw = (cs.take k).foldl (totF hs os) bw + (cs[k].Local + outOf hs os cs[k].Id) := zxc cs (totF hs os) bw hlt
    obtain ⟨OUT, hOUT⟩ : ∃ x, outOf hs os cs[k].Id = x := ⟨_, rfl⟩
    obtain ⟨N, hN⟩ : ∃ x, (cs.take k).foldl (totF hs os) bw = x := ⟨_, rfl⟩
    rw [hN] at hst n1 n2 ⊢
    rw [hOUT] at hst o1 o2 TR
    have HST := Lib.hid hst
    have HTR := Lib.hid TR
    have s1 : IntKind.i64.wrap (cs[k].Local + OUT) = cs[k].Local + OUT := IntWalk.i64_in _ ⟨by omega, by omega⟩
    have s2 : IntKind.i64.wrap (N + (cs[k].Local + OUT)) = N + (cs[k].Local + OUT) := IntWalk.i64_in _ ⟨by omega, by omega⟩
    clear hst TR hOUT hN n1 n2 l1 l2 o1 o2 hcl
    go_wp2_with fail
    refine (HTR.out _ ((HR.out.below (bl_)).more (by first | omega | (simp; omega) | (simp; done)))).mono ?_
    rintro e w10 ⟨rfl, hb10⟩
    have z10 := hb10.size
    obtain ⟨lh, l0, l1, l2, l3, l4, l5, l6, lf, lz⟩ := own7 (g := wr.heap.size) hb10 (by first | omega | (simp; omega) | (simp; done)) (hp_)
    obtain ⟨mh, m0, m1, m2, m3, m4, m5, mf, mz⟩ := own6 (g := w.heap.size) hb10 (by first | omega | (simp; omega) | (simp; done)) (by have hq := zqe (o := .cells #[.int .i64 cs[k].Id, .int .i64 cs[k].Size, .int .i64 cs[k].Local, .int .i64 cs[k].Remote, .int .i64 cs[k].Base, .int .i64 cs[k].Ppm, .int .i64 cs[k].Score] 32) ezz2 EB.out; exact hp_)
    have MH := Lib.hid mh
    have hbw10 : Below w.heap.size w w10 := bl_
    clear lh mh hb10
    go_wp2_with fail
    go_roundw
    case rel => exact ⟨k + 1, by omega, by go_num, by rw [HST.out], MH.out, bl_⟩
    case measure => simp [intOf]; omega
   ·
    obtain rfl : k = cs.length := by omega
    rw [List.take_length] at *
    go_wp2_with fail
    go_ret
    exact ⟨by first | (rw [H1.out]; done) | (rw [H1.out]; rfl), bl_⟩
end Go.Proofs.Ytcjbjpobpefehaa
namespace Go.Proofs.Ytcjbjpobpefehaa
open Go.RowKit
set_option maxRecDepth 100000 in
set_option maxHeartbeats 4000000 in
theorem s_Total (bt bn bw : Int) (cs : List Chan) (hs : List Htlc) (os : List Circle) (A1 A2 A3 : Option Addr) (p1 p2 p3 : Nat) (w : World) (hlc : cs.length ≤ 1048576) (hlh : hs.length ≤ 1048576) (hlo : os.length ≤ 1048576) (hr : RdBook w w.heap.size A1 cs A2 hs A3 os) :
  Calls Try.prog 8 #[.agg #[.int .i64 bt, .int .i64 bn, .int .i64 bw, .slice A1 cs.length p1, .slice A2 hs.length p2, .slice A3 os.length p3]] w fun e w' => e = .returned (.int .i64 (totalOf bt bn bw cs hs os)) ∧ Below w.heap.size w w' := by
 have HR := Lib.hid hr
 have HCH := Lib.hid hr.c
 clear hr
 cases hb : bookB bt bn bw cs hs os
 ·
  have HB := Lib.hid hb
  have H1 := Lib.hid (show totalOf bt bn bw cs hs os = 0 by simp [totalOf, hb])
  clear hb
  go_enter Try.func8, Try.ntmps8
  go_wp2_with fail
  refine (s_BookOk bt bn bw cs hs os _ _ _ _ _ _ _ hlc hlh hlo ((HR.out.below (bl_)).more (by first | omega | (simp; omega) | (simp; done)))).mono ?_
  rintro e w1 ⟨rfl, hb1⟩
  have z1 := hb1.size
  try simp at z1
  rw [HB.out]
  go_wp2_with fail
  go_ret
  exact ⟨by first | (rw [H1.out]; done) | (rw [H1.out]; rfl), bl_⟩
 ·
  have HB := Lib.hid hb
  have HF := Lib.hid (zvc hb)
  have H1 := Lib.hid (show totalOf bt bn bw cs hs os = cs.foldl (totF hs os) bw by simp [totalOf, hb])
  clear hb
  go_enter Try.func8, Try.ntmps8
  go_wp2_with fail
  refine (s_BookOk bt bn bw cs hs os _ _ _ _ _ _ _ hlc hlh hlo ((HR.out.below (bl_)).more (by first | omega | (simp; omega) | (simp; done)))).mono ?_
  rintro e w1 ⟨rfl, hb1⟩
  have z1 := hb1.size
  try simp at z1
  rw [HB.out]
  obtain ⟨eh, e0, e1, e2, e3, e4, e5, ef, ezz⟩ := own6 (g := w.heap.size) hb1 (by first | omega | (simp; omega) | (simp; done)) (hp_)
  have EH := Lib.hid eh
  have hA1 : Below w.heap.size w w1 := bl_
  clear eh hb1
  go_wp2_with fail
  clear e0 e1 e2 e3 e4 e5 ef
  go_loopw [3, 14] (fun n i wr => ∃ k : Nat, k ≤ cs.length ∧ i = .int .i64 k ∧ n = .int .i64 ((cs.take k).foldl (totF hs os) bw) ∧ wr.heap[w.heap.size]? = some (.cells #[.int .i64 bt, .int .i64 bn, .int .i64 bw, .slice A1 cs.length p1, .slice A2 hs.length p2, .slice A3 os.length p3] 27) ∧ Below w.heap.size w wr) (fun _ i _ => cs.length - (intOf i).toNat)
  case atStart => exact ⟨0, Nat.zero_le _, rfl, rfl, EH.out, hA1⟩
  case round =>
   clear hA1
   obtain ⟨k, hk, rfl, rfl, hbox, hbw⟩ := hrel
   have hbz := hbw.size
   obtain ⟨eh, e0, e1, e2, e3, e4, e5, ef, ezz2⟩ := own6 (Below.refl wr.heap.size wr) (gz_ hbox).1 hbox
   have EB := Lib.hid eh
   clear eh hbox
   by_cases hlt : k < cs.length
   ·
    obtain ⟨b, off, rfl, hbB, c0, c1, c2, c3, c4, c5, c6⟩ := Chan.rd (HCH.out.below hbw) hlt
    have hbr : b < wr.heap.size := by omega
    have hcl := HF.out.cl
    obtain ⟨n1, n2⟩ := HF.out.tot k hk
    obtain ⟨l1, l2⟩ := HF.out.local_ hlt
    obtain ⟨o1, o2⟩ := HF.out.small.out_bd cs[k].Id
    have TR := fun W q => s_l07Out bt bn bw cs hs os (some ⟨b, off, none⟩) A2 A3 p1 p2 p3 cs[k].Id W HF.out.small q
    have hst : (cs.take (k + 1)).foldl (totF hs os) bw = (cs.take k).foldl (totF hs os) bw + (cs[k].Local + outOf hs os cs[k].Id) := zxc cs (totF hs os) bw hlt
    obtain ⟨OUT, hOUT⟩ : ∃ x, outOf hs os cs[k].Id = x := ⟨_, rfl⟩
    obtain ⟨N, hN⟩ : ∃ x, (cs.take k).foldl (totF hs os) bw = x := ⟨_, rfl⟩
    rw [hN] at hst n1 n2 ⊢
    rw [hOUT] at hst o1 o2 TR
    have HST := Lib.hid hst
    have HTR := Lib.hid TR
    have s1 : IntKind.i64.wrap (N + cs[k].Local) = N + cs[k].Local := IntWalk.i64_in _ ⟨by omega, by omega⟩
    have s2 : IntKind.i64.wrap (N + cs[k].Local + OUT) = N + cs[k].Local + OUT := IntWalk.i64_in _ ⟨by omega, by omega⟩
    clear hst TR hOUT hN n1 n2 l1 l2 o1 o2 hcl
    go_wp2_with fail
    have HK2 : Hid (∀ w2, Above (wr.alloc (.cells #[.int .i64 cs[k].Id, .int .i64 cs[k].Size, .int .i64 cs[k].Local, .int .i64 cs[k].Remote, .int .i64 cs[k].Base, .int .i64 cs[k].Ppm, .int .i64 cs[k].Score] 32)).drew w2 → (w2.heap[wr.heap.size]? = some (.cells #[.int .i64 cs[k].Id, .int .i64 cs[k].Size, .int .i64 cs[k].Local, .int .i64 cs[k].Remote, .int .i64 cs[k].Base, .int .i64 cs[k].Ppm, .int .i64 cs[k].Score] 32) ∧ w2.heap[w.heap.size]? = some (.cells #[.int .i64 bt, .int .i64 bn, .int .i64 bw, .slice (some ⟨b, off, none⟩) cs.length p1, .slice A2 hs.length p2, .slice A3 os.length p3] 27)) ∧ Below w.heap.size w w2) := Lib.hid (fun w2 hw2 => ⟨⟨(hw2.block wr.heap.size (by simp)).trans (zxa (zxe rfl)), (hw2.block w.heap.size (by simp; omega)).trans (zxa (zqe ezz2 EB.out))⟩, bl_⟩)
    have HK : Hid (∀ w2, Above (wr.alloc (.cells #[.int .i64 cs[k].Id, .int .i64 cs[k].Size, .int .i64 cs[k].Local, .int .i64 cs[k].Remote, .int .i64 cs[k].Base, .int .i64 cs[k].Ppm, .int .i64 cs[k].Score] 32)).drew w2 → w2.cell? ⟨wr.heap.size, 0, none⟩ = some (.int .i64 cs[k].Id) ∧ w2.cell? ⟨wr.heap.size, 1, none⟩ = some (.int .i64 cs[k].Size) ∧ w2.cell? ⟨wr.heap.size, 2, none⟩ = some (.int .i64 cs[k].Local) ∧ w2.cell? ⟨wr.heap.size, 3, none⟩ = some (.int .i64 cs[k].Remote) ∧ w2.cell? ⟨wr.heap.size, 4, none⟩ = some (.int .i64 cs[k].Base) ∧ w2.cell? ⟨wr.heap.size, 5, none⟩ = some (.int .i64 cs[k].Ppm) ∧ w2.cell? ⟨wr.heap.size, 6, none⟩ = some (.int .i64 cs[k].Score) ∧ w2.cell? ⟨w.heap.size, 0, none⟩ = some (.int .i64 bt) ∧ w2.cell? ⟨w.heap.size, 1, none⟩ = some (.int .i64 bn) ∧ w2.cell? ⟨w.heap.size, 2, none⟩ = some (.int .i64 bw) ∧ w2.cell? ⟨w.heap.size, 3, none⟩ = some (.slice (some ⟨b, off, none⟩) cs.length p1) ∧ w2.cell? ⟨w.heap.size, 4, none⟩ = some (.slice A2 hs.length p2) ∧ w2.cell? ⟨w.heap.size, 5, none⟩ = some (.slice A3 os.length p3)) := Lib.hid (fun w2 hw2 => by
     obtain ⟨⟨q1, q2⟩, _⟩ := HK2.out w2 hw2
     exact ⟨zqc q1 0, zqc q1 1, zqc q1 2, zqc q1 3, zqc q1 4, zqc q1 5, zqc q1 6, zqc q2 0, zqc q2 1, zqc q2 2, zqc q2 3, zqc q2 4, zqc q2 5⟩)
    refine zva (by kernel_rfl) (by kernel_rfl) ?_
    repeat (first | (refine zjf rfl ?_; intro K hK; go_simp; refine hK _ ?_; clear hK K) | (refine zja ?_ rfl ?_ ?_; rotate_left; (focus (intro w2 hw2; obtain ⟨k0, k1, k2, k3, k4, k5, k6, v0, v1, v2, v3, v4, v5⟩ := HK.out w2 hw2; go_simp; rfl)); intro K hK; go_simp; refine hK _ ?_; clear hK K))
    refine zka 26 #[.agg #[.int .i64 bt, .int .i64 bn, .int .i64 bw, .slice (some ⟨b, off, none⟩) cs.length p1, .slice A2 hs.length p2, .slice A3 os.length p3], .int .i64 cs[k].Id] (.int .i64 OUT) rfl (fun w2 hw2 => by go_simp) (fun w2 hw2 => (HTR.out w2 ((HR.out.below (HK2.out w2 hw2).2).more (by have := hw2.size; simp at this; omega))).mono (fun e w3 hh => hh)) ?_
    intro K hK; go_simp; refine hK _ ?_; clear hK K
    repeat (first | (refine zjf rfl ?_; intro K hK; go_simp; refine hK _ ?_; clear hK K) | (refine zja ?_ rfl ?_ ?_; rotate_left; (focus (intro w2 hw2; obtain ⟨k0, k1, k2, k3, k4, k5, k6, v0, v1, v2, v3, v4, v5⟩ := HK.out w2 hw2; go_simp; rfl)); intro K hK; go_simp; refine hK _ ?_; clear hK K))
    refine zvj ?_
    intro w10 hb10
    obtain ⟨⟨_, mh⟩, hbw10⟩ := HK2.out w10 hb10
    have MH := Lib.hid mh
    clear mh HK hb10 s1 s2
    go_wp2_with fail
    go_roundw
    case rel => exact ⟨k + 1, by omega, by go_num, by rw [HST.out, Int.add_assoc], MH.out, bl_⟩
    case measure => simp [intOf]; omega
   ·
    obtain rfl : k = cs.length := by omega
    rw [List.take_length] at *
    go_wp2_with fail
    go_ret
    exact ⟨by first | (rw [H1.out]; done) | (rw [H1.out]; rfl), bl_⟩
end Go.Proofs.Ytcjbjpobpefehaa
namespace Go.Proofs.Ytcjbjpobpefehaa
open Go.RowKit Go.Deep
set_option maxRecDepth 100000 in
set_option maxHeartbeats 4000000 in
theorem s_l07Busy (bt bn bw : Int) (cs : List Chan) (hs : List Htlc) (os : List Circle) (A1 A2 A3 : Option Addr) (p1 p2 p3 : Nat) (ch : Int) (w : World) (h60 : hs.length ≤ 60) (h20 : os.length ≤ 20) (hr : RdBook w w.heap.size A1 cs A2 hs A3 os) :
  Calls Try.prog 89 #[.agg #[.int .i64 bt, .int .i64 bn, .int .i64 bw, .slice A1 cs.length p1, .slice A2 hs.length p2, .slice A3 os.length p3], .int .i64 ch] w fun e w' => e = .returned (.bool (busyB hs os ch)) ∧ Below w.heap.size w w' := by
 have HH := Lib.hid hr.h
 have HO := Lib.hid hr.o
 clear hr
 go_enter Try.func89, Try.ntmps89
 go_wp2_with fail
 go_loopw [12] (fun i wr => ∃ k : Nat, k ≤ hs.length ∧ i = .int .i64 k ∧ Hid ((hs.take k).any (usesH ch) = false) ∧ wr.heap[w.heap.size]? = some (.cells #[.int .i64 bt, .int .i64 bn, .int .i64 bw, .slice A1 cs.length p1, .slice A2 hs.length p2, .slice A3 os.length p3] 27 (0, 0)) ∧ Below w.heap.size w wr) (fun i _ => hs.length - (intOf i).toNat)
 case atStart => exact ⟨0, Nat.zero_le _, rfl, Lib.hid rfl, zxe rfl, bl_⟩
 case round =>
  obtain ⟨k, hk, rfl, HA, hbox, hbw⟩ := hrel
  have hbz := hbw.size
  obtain ⟨eh, e0, e1, e2, e3, e4, e5, ef, ezz⟩ := own6 (Below.refl wr.heap.size wr) (gz_ hbox).1 hbox
  have EH := Lib.hid eh
  clear eh hbox
  by_cases hlt : k < hs.length
  ·
   obtain ⟨b, off, rfl, hbB, c0, c1, c2, c3, c4, c5, c6⟩ := Htlc.rd (HH.out.below hbw) hlt
   clear e0 e1 e2 e3 e4 e5 ef
   have Fx := Lib.hid (any_take_succ hs (usesH ch) hlt)
   have HT := Lib.hid (fun hp => any_true hs (usesH ch) hlt hp)
   cases t1 : (hs[k].In == ch)
   ·
    cases t2 : (hs[k].Out == ch)
    ·
     have Kx := Lib.hid (show usesH ch hs[k] = false by simp only [usesH, t1, t2]; rfl)
     go_wp2_with fail
     go_roundw
     case rel => exact ⟨k + 1, by omega, by go_num, Lib.hid (by rw [Fx.out, HA.out, Kx.out]; rfl), zqe ezz EH.out, bl_⟩
     case measure => simp [intOf]; omega
    ·
     have Kx := Lib.hid (show busyB hs os ch = true by unfold busyB; rw [HT.out (by simp only [usesH, t2, Bool.or_true])]; rfl)
     go_wp2_with fail
     go_ret
     exact ⟨zqj Kx.out.symm, bl_⟩
   ·
    have Kx := Lib.hid (show busyB hs os ch = true by unfold busyB; rw [HT.out (by simp only [usesH, t1, Bool.true_or])]; rfl)
    go_wp2_with fail
    go_ret
    exact ⟨zqj Kx.out.symm, bl_⟩
  ·
   obtain rfl : k = hs.length := by omega
   have qx := HA.out
   rw [List.take_length] at qx
   have Qx := Lib.hid qx
   clear qx
   go_wp2_with fail
   obtain ⟨wo, rfl⟩ : ∃ wo : World, wo = wr := ⟨_, rfl⟩
   go_loopw [30] (fun i wr => ∃ k : Nat, k ≤ os.length ∧ i = .int .i64 k ∧ Hid ((os.take k).any (usesC ch) = false) ∧ wr.heap[w.heap.size]? = some (.cells #[.int .i64 bt, .int .i64 bn, .int .i64 bw, .slice A1 cs.length p1, .slice A2 hs.length p2, .slice A3 os.length p3] 27 (0, 0)) ∧ Below w.heap.size w wr) (fun i _ => os.length - (intOf i).toNat)
   case atStart => exact ⟨0, Nat.zero_le _, rfl, Lib.hid rfl, EH.out, bl_⟩
   case round =>
    obtain ⟨k, hk, rfl, HA, hbox, hbw⟩ := hrel
    have hbz := hbw.size
    obtain ⟨eh, e0, e1, e2, e3, e4, e5, ef, ezz⟩ := own6 (Below.refl wr.heap.size wr) (gz_ hbox).1 hbox
    have EH := Lib.hid eh
    clear eh hbox
    by_cases hlt : k < os.length
    ·
     obtain ⟨b, off, rfl, hbB, c0, c1, c2, c3, c4⟩ := Circle.rd (HO.out.below hbw) hlt
     clear e0 e1 e2 e3 e4 e5 ef
     have Fx := Lib.hid (any_take_succ os (usesC ch) hlt)
     have HT := Lib.hid (fun hp => any_true os (usesC ch) hlt hp)
     cases t1 : (os[k].From == ch)
     ·
      cases t2 : (os[k].To == ch)
      ·
       have Kx := Lib.hid (show usesC ch os[k] = false by simp only [usesC, t1, t2]; rfl)
       go_wp2_with fail
       go_roundw
       case rel => exact ⟨k + 1, by omega, by go_num, Lib.hid (by rw [Fx.out, HA.out, Kx.out]; rfl), zqe ezz EH.out, bl_⟩
       case measure => simp [intOf]; omega
      ·
       have Kx := Lib.hid (show busyB hs os ch = true by unfold busyB; rw [HT.out (by simp only [usesC, t2, Bool.or_true])]; simp)
       go_wp2_with fail
       go_ret
       exact ⟨zqj Kx.out.symm, bl_⟩
     ·
      have Kx := Lib.hid (show busyB hs os ch = true by unfold busyB; rw [HT.out (by simp only [usesC, t1, Bool.true_or])]; simp)
      go_wp2_with fail
      go_ret
      exact ⟨zqj Kx.out.symm, bl_⟩
    ·
     obtain rfl : k = os.length := by omega
     have qy := HA.out
     rw [List.take_length] at qy
     have Kx := Lib.hid (show busyB hs os ch = false by unfold busyB; rw [Qx.out, qy]; rfl)
     clear qy
     go_wp2_with fail
     go_ret
     exact ⟨zqj Kx.out.symm, bl_⟩
theorem Small.few_bd {hs : List Htlc} {os : List Circle} (s : Small hs os) (ch : Int) : ∀ k, k ≤ hs.length → 0 ≤ (hs.take k).foldl (fewH ch) 0 ∧ (hs.take k).foldl (fewH ch) 0 ≤ (k : Int) * 1125899906842624
 | 0, _ => by simp
 | k + 1, hk => by
  obtain ⟨h1, h2⟩ := s.few_bd ch k (by omega)
  obtain ⟨⟨a, b⟩, _⟩ := s.h k (by omega)
  rw [zxc hs _ _ (by omega)]
  unfold fewH at h1 h2 ⊢
  split
  ·
   split <;> omega
  ·
   omega
theorem slot_bd {hs : List Htlc} (ch : Int) : ∀ k, k ≤ hs.length → 0 ≤ (hs.take k).foldl (slotH ch) 0 ∧ (hs.take k).foldl (slotH ch) 0 ≤ (k : Int)
 | 0, _ => by simp
 | k + 1, hk => by
  obtain ⟨h1, h2⟩ := slot_bd (hs := hs) ch k (by omega)
  rw [zxc hs _ _ (by omega)]
  unfold slotH at h1 h2 ⊢
  split <;> omega
theorem slotFew_bd {hs : List Htlc} (ch : Int) : ∀ k, k ≤ hs.length → 0 ≤ (hs.take k).foldl (slotFewH ch) 0 ∧ (hs.take k).foldl (slotFewH ch) 0 ≤ (k : Int)
 | 0, _ => by simp
 | k + 1, hk => by
  obtain ⟨h1, h2⟩ := slotFew_bd (hs := hs) ch k (by omega)
  rw [zxc hs _ _ (by omega)]
  unfold slotFewH at h1 h2 ⊢
  split
  ·
   split <;> omega
  ·
   omega
set_option maxRecDepth 100000 in
set_option maxHeartbeats 4000000 in
theorem s_l07Room (bt bn bw : Int) (cs : List Chan) (hs : List Htlc) (os : List Circle) (A1 A2 A3 : Option Addr) (p1 p2 p3 : Nat) (ci co : Chan) (amt : Int) (yes : Bool) (w : World) (hsm : Small hs os) (hr : RdBook w w.heap.size A1 cs A2 hs A3 os) :
  Calls Try.prog 91 #[.agg #[.int .i64 bt, .int .i64 bn, .int .i64 bw, .slice A1 cs.length p1, .slice A2 hs.length p2, .slice A3 os.length p3], .agg #[.int .i64 ci.Id, .int .i64 ci.Size, .int .i64 ci.Local, .int .i64 ci.Remote, .int .i64 ci.Base, .int .i64 ci.Ppm, .int .i64 ci.Score], .agg #[.int .i64 co.Id, .int .i64 co.Size, .int .i64 co.Local, .int .i64 co.Remote, .int .i64 co.Base, .int .i64 co.Ppm, .int .i64 co.Score], .int .i64 amt, .bool yes] w fun e w' => e = .returned (.int .i64 (roomF hs co co.Id amt ci.Score yes)) ∧ Below w.heap.size w w' := by
 have HH := Lib.hid hr.h
 have HS := Lib.hid hsm
 have h60 := hsm.hl
 clear hr hsm
 obtain ⟨ch, hch⟩ : ∃ ch, co.Id = ch := ⟨_, rfl⟩
 rw [hch]
 have HCH := Lib.hid hch
 clear hch
 go_enter Try.func91, Try.ntmps91
 go_wp2_with fail
 go_loopw [11, 12, 13, 14, 20] (fun v1 v2 v3 v4 i wr => ∃ (k : Nat) (x1 x2 x3 x4 : Int), k ≤ hs.length ∧ i = .int .i64 k ∧ v1 = .int .i64 x1 ∧ v2 = .int .i64 x2 ∧ v3 = .int .i64 x3 ∧ v4 = .int .i64 x4 ∧ Hid ((hs.take k).foldl (fewH ch) 0 = x1) ∧ Hid ((hs.take k).foldl (outH ch) 0 = x2) ∧ Hid ((hs.take k).foldl (slotFewH ch) 0 = x3) ∧ Hid ((hs.take k).foldl (slotH ch) 0 = x4)
   ∧ wr.heap[w.heap.size]? = some (.cells #[.int .i64 bt, .int .i64 bn, .int .i64 bw, .slice A1 cs.length p1, .slice A2 hs.length p2, .slice A3 os.length p3] 27 (0, 0))
   ∧ wr.heap[w.heap.size + 1]? = some (.cells #[.int .i64 ci.Id, .int .i64 ci.Size, .int .i64 ci.Local, .int .i64 ci.Remote, .int .i64 ci.Base, .int .i64 ci.Ppm, .int .i64 ci.Score] 32 (0, 0))
   ∧ wr.heap[w.heap.size + 1 + 1]? = some (.cells #[.int .i64 ch, .int .i64 co.Size, .int .i64 co.Local, .int .i64 co.Remote, .int .i64 co.Base, .int .i64 co.Ppm, .int .i64 co.Score] 32 (0, 0)) ∧ Below w.heap.size w wr) (fun _ _ _ _ i _ => hs.length - (intOf i).toNat)
 case atStart => exact ⟨0, _, _, _, _, Nat.zero_le _, rfl, rfl, rfl, rfl, rfl, Lib.hid rfl, Lib.hid rfl, Lib.hid rfl, Lib.hid rfl, zqe (by simp; omega) (zqe (by simp) (zxe rfl)), zqe (by simp) (zxe (by simp)), zxe (by simp), bl_⟩
 case round =>
  obtain ⟨k, x1, x2, x3, x4, hk, rfl, rfl, rfl, rfl, rfl, H1, H2, H3, H4, hbox, hbi, hbo, hbw⟩ := hrel
  have hbz := hbw.size
  obtain ⟨eh, e0, e1, e2, e3, e4, e5, ef, ezz⟩ := own6 (Below.refl wr.heap.size wr) (gz_ hbox).1 hbox
  have EH := Lib.hid eh
  have s6 : wr.cell? ⟨w.heap.size + 1, 6, none⟩ = some (.int .i64 ci.Score) := zqc hbi 6
  have o0 : wr.cell? ⟨w.heap.size + 1 + 1, 0, none⟩ = some (.int .i64 ch) := zqc hbo 0
  have o1 : wr.cell? ⟨w.heap.size + 1 + 1, 1, none⟩ = some (.int .i64 co.Size) := zqc hbo 1
  have oz := (gz_ hbo).1
  have iz := (gz_ hbi).1
  have EI := Lib.hid hbi
  have EO := Lib.hid hbo
  clear eh hbox hbi hbo
  have bd1 := HS.out.few_bd ch k hk
  have bd2 := HS.out.outH_bd ch k hk
  have bd3 := slotFew_bd (hs := hs) ch k hk
  have bd4 := slot_bd (hs := hs) ch k hk
  rw [H1.out] at bd1
  rw [H2.out] at bd2
  rw [H3.out] at bd3
  rw [H4.out] at bd4
  obtain ⟨l1, u1⟩ := bd1
  obtain ⟨l2, u2⟩ := bd2
  obtain ⟨l3, u3⟩ := bd3
  obtain ⟨l4, u4⟩ := bd4
  by_cases hlt : k < hs.length
  ·
   obtain ⟨b, off, rfl, hbB, c0, c1, c2, c3, c4, c5, c6⟩ := Htlc.rd (HH.out.below hbw) hlt
   obtain ⟨⟨m1, m2⟩, m3, m4⟩ := HS.out.h k hlt
   clear e0 e1 e2 e3 e4 e5 ef s6 o1
   have F1 := Lib.hid (zxc hs (fewH ch) 0 hlt)
   have F2 := Lib.hid (zxc hs (outH ch) 0 hlt)
   have F3 := Lib.hid (zxc hs (slotFewH ch) 0 hlt)
   have F4 := Lib.hid (zxc hs (slotH ch) 0 hlt)
   cases tx : (hs[k].Out == ch)
   ·
    have tn : (hs[k].Out != ch) = true := by simp [bne, tx]
    have K1 := Lib.hid (show fewH ch x1 hs[k] = x1 by simp [fewH, tx])
    have K2 := Lib.hid (show outH ch x2 hs[k] = x2 by simp [outH, tx])
    have K3 := Lib.hid (show slotFewH ch x3 hs[k] = x3 by simp [slotFewH, tx])
    have K4 := Lib.hid (show slotH ch x4 hs[k] = x4 by simp [slotH, tx])
    clear tx
    go_wp2_with fail
    go_roundw
    case rel => exact ⟨k + 1, _, _, _, _, by omega, by go_num, rfl, rfl, rfl, rfl, Lib.hid (by rw [F1.out, H1.out, K1.out]), Lib.hid (by rw [F2.out, H2.out, K2.out]), Lib.hid (by rw [F3.out, H3.out, K3.out]), Lib.hid (by rw [F4.out, H4.out, K4.out]), zqe ezz EH.out, zqe iz EI.out, zqe oz EO.out, bl_⟩
    case measure => simp [intOf]; omega
   ·
    have tn : (hs[k].Out != ch) = false := by simp [bne, tx]
    cases ty : hs[k].Kept
    ·
     have K1 := Lib.hid (show fewH ch x1 hs[k] = x1 + hs[k].AmtOut by simp [fewH, tx, ty])
     have K2 := Lib.hid (show outH ch x2 hs[k] = x2 + hs[k].AmtOut by simp [outH, tx])
     have K3 := Lib.hid (show slotFewH ch x3 hs[k] = x3 + 1 by simp [slotFewH, tx, ty])
     have K4 := Lib.hid (show slotH ch x4 hs[k] = x4 + 1 by simp [slotH, tx])
     clear tx
     go_wp2_with fail
     go_roundw
     case rel => exact ⟨k + 1, _, _, _, _, by omega, by go_num, by first | rfl | go_num, by first | rfl | go_num, by first | rfl | go_num, by first | rfl | go_num, Lib.hid (by rw [F1.out, H1.out, K1.out]), Lib.hid (by rw [F2.out, H2.out, K2.out]), Lib.hid (by rw [F3.out, H3.out, K3.out]), Lib.hid (by rw [F4.out, H4.out, K4.out]), zqe ezz EH.out, zqe iz EI.out, zqe oz EO.out, bl_⟩
     case measure => simp [intOf]; omega
    ·
     have K1 := Lib.hid (show fewH ch x1 hs[k] = x1 by simp [fewH, tx, ty])
     have K2 := Lib.hid (show outH ch x2 hs[k] = x2 + hs[k].AmtOut by simp [outH, tx])
     have K3 := Lib.hid (show slotFewH ch x3 hs[k] = x3 by simp [slotFewH, tx, ty])
     have K4 := Lib.hid (show slotH ch x4 hs[k] = x4 + 1 by simp [slotH, tx])
     clear tx
     go_wp2_with fail
     go_roundw
     case rel => exact ⟨k + 1, _, _, _, _, by omega, by go_num, by first | rfl | go_num, by first | rfl | go_num, by first | rfl | go_num, by first | rfl | go_num, Lib.hid (by rw [F1.out, H1.out, K1.out]), Lib.hid (by rw [F2.out, H2.out, K2.out]), Lib.hid (by rw [F3.out, H3.out, K3.out]), Lib.hid (by rw [F4.out, H4.out, K4.out]), zqe ezz EH.out, zqe iz EI.out, zqe oz EO.out, bl_⟩
     case measure => simp [intOf]; omega
  ·
   obtain rfl : k = hs.length := by omega
   have q1 := H1.out
   have q2 := H2.out
   have q3 := H3.out
   have q4 := H4.out
   rw [List.take_length] at q1 q2 q3 q4
   have HE := Lib.hid (show roomF hs co ch amt ci.Score yes = allowF co.Size x1 x2 x3 x4 amt (standB ci.Score yes) by unfold roomF; rw [q1, q2, q3, q4])
   clear q1 q2 q3 q4 H1 H2 H3 H4
   go_wp2_with fail
   go_quiet (first | (go_at_call 112; exact zqg (s_Standing _ _ _)) | (go_at_call 111; exact zqg (s_Allow _ _ _ _ _ _ _ _ (by omega) (by omega))))
   go_wp2_with fail
   go_ret
   exact ⟨zke HE.out.symm, bl_⟩
end Go.Proofs.Ytcjbjpobpefehaa

/- Lines of a book read by the reference: TextBook. -/
import Derived.Test.YtcjbjpobpefehaaGreatDoorRows
import Derived.Test.YtcjbjpobpefehaaGreatDoorM4
import Derived.Test.YtcjbjpobpefehaaGreatDoorM3
import Derived.Deep.RegionHeld3
import Derived.Test.YtcjbjpobpefehaaGreatDoorBkS2
import Derived.Test.YtcjbjpobpefehaaGreatDoorBkS3
import Derived.Test.YtcjbjpobpefehaaGreatDoorBkS4
namespace Go.Proofs.YtcjbjpobpefehaaGreatDoor
open Go.RowKit Go.Deep

theorem s_l21Take (B : Nat) (b : Bk) (A1 A2 A3 : Option Addr) (p1 p2 p3 : Nat) (P : List (List UInt8)) (A : Option Addr) (cap : Nat) (w : World) (hr : Rd w w.heap.size 1 A (P.map strC)) (hO : OwB w B b A1 A2 A3 p1 p2 p3) (hB : B ≤ w.heap.size) (hlb : P.length ≤ 1048577 ∧ b.cs.length ≤ 1000 ∧ b.hs.length ≤ 1000 ∧ b.os.length ≤ 1000) (hne : P ≠ []) :
    Calls Tryz.prog 30 #[bkVal b A1 A2 A3 p1 p2 p3, .slice A P.length cap] w (TakeP w B (takeS b P)) := by
  obtain ⟨h, l, hP⟩ := List.exists_cons_of_ne_nil hne
  by_cases nbook : h = bookW
  · subst nbook
    exact s_l21Take_book B b A1 A2 A3 p1 p2 p3 P A cap w hr hO hB hlb l hP
  by_cases nchan : h = chanW
  · subst nchan
    exact s_l21Take_chan B b A1 A2 A3 p1 p2 p3 P A cap w hr hO hB hlb l hP
  by_cases nhtlc : h = htlcW
  · subst nhtlc
    exact s_l21Take_htlc B b A1 A2 A3 p1 p2 p3 P A cap w hr hO hB hlb l hP
  by_cases ncirc : h = circW
  · subst ncirc
    exact s_l21Take_circ B b A1 A2 A3 p1 p2 p3 P A cap w hr hO hB hlb l hP
  exact s_l21Take_other B b A1 A2 A3 p1 p2 p3 P A cap w hr hO hB hlb h l hP nbook nchan nhtlc ncirc
set_option maxRecDepth 100000 in
set_option maxHeartbeats 4000000 in
theorem s_TextBook (s : ByteArray) (w : World) (hs : s.size ≤ 1048576) : Calls Tryz.prog 12 #[.string s] w (RdB s.data.toList w) := by
  have hz : s.data.toList.length = s.size := Array.length_toList
  have hln := parts_len 10 s.data.toList
  have HSub := Lib.hid (parts_sub 10 s.data.toList)
  have HMany := Lib.hid (show 104 < (parts 10 s.data.toList).length → BookIs s.data.toList 0 0 0 [] [] [] false from book_manyS)
  have HMiss := Lib.hid (show ∀ b : Bk, readS bk0 (parts 10 s.data.toList) = b → bookL b.t b.n b.w b.cs b.hs b.os ≠ s.data.toList → BookIs s.data.toList 0 0 0 [] [] [] false from fun b h1 h2 => book_missS h1 h2)
  have H0 := Lib.hid (parts_ne 10 s.data.toList)
  have HC := Lib.hid (fun W => s_l04Parts s 10 10 W rfl hs)
  unfold PartsP at HC
  obtain ⟨LS, hLS⟩ : ∃ LS, parts 10 s.data.toList = LS := ⟨_, rfl⟩
  rw [hLS] at HSub HC hln HMany HMiss H0
  obtain ⟨N, hN⟩ : ∃ N, LS.length = N := ⟨_, rfl⟩
  rw [hN] at hln HC HMany
  have hN1 : N ≤ 1048577 := by omega
  have hN0 : 0 < N := by rw [← hN]; exact List.length_pos_iff.2 H0.out
  have HNL := Lib.hid hN
  have HSz := Lib.hid (show ∀ x ∈ LS, x.length ≤ 1048576 from fun x hx => by have := HSub.out x hx; omega)
  clear hz hln hLS hN HSub H0
  go_enter Tryz.func12, Tryz.ntmps12
  go_wp2_with fail
  refine (HC.out _).mono ?_
  rintro e w1 ⟨A1, cap1, rfl, how1, hb1⟩
  have z1 := hb1.size
  (try simp at z1)
  obtain ⟨PB, rfl, hPB⟩ := how1.head_ (by rw [List.length_map, HNL.out]; exact hN0)
  (try simp at hPB)
  have hcap0 : N ≤ cap1 := by
    obtain ⟨A', cap'', e1, _, h2, _⟩ := how1.form
    rw [List.length_map, HNL.out] at h2
    injection e1 with _ _ e3
    omega
  obtain ⟨cs, hP1, hcs⟩ := how1.strs
  have hR1 := heap_below (n := w.heap.size) hb1 (by simp; omega) (heap_past (by simp) (heap_at rfl))
  have hX1 := heap_below (n := w.heap.size + 1) hb1 (by simp) (heap_at (by simp))
  obtain ⟨X, hX⟩ : ∃ X, X = w.heap.size + 1 := ⟨_, rfl⟩
  have hXR : w.heap.size < X := by omega
  have hXX : X + 1 ≤ w1.heap.size := by omega
  rw [← hX] at hX1 ⊢
  have hbA : Below w.heap.size w w1 := by (first | ((repeat' first | (with_reducible (first | exact Below.refl _ _ | assumption | refine Below.setCell ?_ ?_ _ | refine Below.alloc ?_ ?_ _ | refine Below.drew ?_ | refine below_drewN ?_ _ | refine Below.trans ?_ (Below.mono (by assumption) ?_))) | omega | (simp; omega) | (simp; done)); done) | (repeat' first | exact Below.refl _ _ | assumption | refine Below.setCell ?_ (by first | omega | (simp; omega) | (simp; done)) _ | refine Below.alloc ?_ (by first | omega | (simp; omega) | (simp; done)) _ | refine Below.drew ?_ | refine below_drewN ?_ _ | refine Below.trans ?_ (Below.mono (by assumption) (by first | omega | (simp; omega) | (simp; done)))))
  have hPl : PB < w1.heap.size := (Array.getElem?_eq_some_iff.1 hP1).1
  have HCS := Lib.hid hcs
  have HR1 := Lib.hid hR1
  have HX_w1 : Hid (BoxB w1 X bk0 none none none 0 0 0) := Lib.hid hX1
  have HP1 := Lib.hid hP1
  have hXB : w.heap.size ≤ X := by omega
  have hXB2 : X ≤ w.heap.size + 1 := by omega
  obtain ⟨_, r0, r1, r2, r3, r4, r5, rf, rz⟩ := own6 (g := w.heap.size) (Below.refl _ w1) (by omega) HR1.out
  obtain ⟨_, a0, a1, a2, a3, a4, a5, af, az⟩ := own6 (g := X) (Below.refl _ w1) (by omega) HX_w1.out
  clear hb1 hR1 hX1 hP1 hcs hX HC how1
  by_cases hbig : 104 < N
  · have HN := Lib.hid (HMany.out hbig)
    have hbig' : (104 : Int) < (N : Int) := by omega
    clear HMany HMiss
    unfold bk0 at a0 a1 a2 a3 a4 a5
    go_wp2_with fail
    refine bodyPost_ret (v := .tuple #[.agg #[.int .i64 0, .int .i64 0, .int .i64 0, .slice none 0 0, .slice none 0 0, .slice none 0 0], .bool false]) (by simp [results, Tryz.results12, go_sem, *]) rfl (RdB.zero HN.out ?_)
    (first | ((repeat' first | (with_reducible (first | exact Below.refl _ _ | assumption | refine Below.setCell ?_ ?_ _ | refine Below.alloc ?_ ?_ _ | refine Below.drew ?_ | refine below_drewN ?_ _ | refine Below.trans ?_ (Below.mono (by assumption) ?_))) | omega | (simp; omega) | (simp; done)); done) | (repeat' first | exact Below.refl _ _ | assumption | refine Below.setCell ?_ (by first | omega | (simp; omega) | (simp; done)) _ | refine Below.alloc ?_ (by first | omega | (simp; omega) | (simp; done)) _ | refine Below.drew ?_ | refine below_drewN ?_ _ | refine Below.trans ?_ (Below.mono (by assumption) (by first | omega | (simp; omega) | (simp; done)))))
  · have hbig' : decide ((N : Int) > 104) = false := decide_eq_false (by omega)
    have hbig2 : (N : Int) ≤ 104 := by omega
    clear HMany a0 a1 a2 a3 a4 a5 af az r0 r1 r2 r3 r4 r5 rf rz
    go_wp2_with fail
    go_loopw [17] (fun i wr => ∃ (k : Nat) (b : Bk) (A1 A2 A3 : Option Addr) (p1 p2 p3 : Nat), k ≤ N ∧ i = .int .i64 k ∧ Hid (readS bk0 (LS.take k) = b) ∧ Hid (b.cs.length ≤ k ∧ b.hs.length ≤ k ∧ b.os.length ≤ k) ∧ BoxB wr X b A1 A2 A3 p1 p2 p3 ∧ OwB wr (X + 1) b A1 A2 A3 p1 p2 p3 ∧ wr.heap[w.heap.size]? = some (.cells #[.int .i64 0, .int .i64 0, .int .i64 0, .slice none 0 0, .slice none 0 0, .slice none 0 0] 27 (0, 0)) ∧ wr.heap[PB]? = some (.cells cs 9 (0, 0)) ∧ Below w.heap.size w wr) (fun i _ => N - (intOf i).toNat)
    case atStart => exact ⟨0, bk0, none, none, none, 0, 0, 0, Nat.zero_le _, rfl, Lib.hid rfl, Lib.hid (by simp [bk0]), HX_w1.out, OwB.nil_ _ _ _ _ _, HR1.out, HP1.out, hbA⟩
    case round =>
      obtain ⟨k, b, A1, A2, A3, p1, p2, p3, hk, rfl, HInv, HL, hX, how, hR, hP, hbw⟩ := hrel
      have hbz := hbw.size
      have hXl := hX.lt
      have hRl := (Array.getElem?_eq_some_iff.1 hR).1
      have hPl2 := (Array.getElem?_eq_some_iff.1 hP).1
      have HX_wr := Lib.hid hX
      have HR := Lib.hid hR
      have HP := Lib.hid hP
      have HW := Lib.hid how
      clear how hX hR hP HX_w1 HR1 HP1 hbA
      by_cases hlt : k < N
      · have hkL : k < LS.length := by rw [HNL.out]; exact hlt
        obtain ⟨t, ht', ht⟩ := str_of LS[k]
        have hts : t.size ≤ 1048576 := by rw [ht.out.size]; exact HSz.out _ (List.getElem_mem hkL)
        have c0 : wr.cell? ⟨PB, k, none⟩ = some (.string t) := by rw [blk_cell HP.out, HCS.out k LS[k] (List.getElem?_eq_getElem hkL), ht']
        have HTD := Lib.hid ht.out.data
        have HS1 := Lib.hid (show readS bk0 (LS.take (k + 1)) = takeS b (parts 32 LS[k]) by rw [readS_succ hkL, HInv.out])
        have HSp := Lib.hid (fun W => s_l04Parts t 32 32 W rfl hts)
        unfold PartsP at HSp
        have hql := parts_len 32 LS[k]
        have hll : LS[k].length ≤ 1048576 := HSz.out _ (List.getElem_mem hkL)
        rw [HTD.out] at HSp
        have HNe := Lib.hid (parts_ne 32 LS[k])
        obtain ⟨P, hPP⟩ : ∃ P, parts 32 LS[k] = P := ⟨_, rfl⟩
        rw [hPP] at HSp hql HS1 HNe
        have hPl3 : P.length ≤ 1048577 := by omega
        clear ht' ht hPP hql hll
        have i0 : (0 : Int) ≤ (k : Int) := by omega
        have i1 : (k : Int) < (N : Int) := by omega
        have hkb : k ≤ 104 := by omega
        obtain ⟨_, a0, a1, a2, a3, a4, a5, af, az⟩ := own6 (g := X) (Below.refl _ wr) (by omega) HX_wr.out
        go_wp2_with fail
        refine wp_region_noPanic ?_
        refine wp_region_lastL2 (S := (fun w' => w'.cell? ⟨X, 0, none⟩ = some (.int .i64 b.t) ∧ w'.cell? ⟨X, 1, none⟩ = some (.int .i64 b.n) ∧ w'.cell? ⟨X, 2, none⟩ = some (.int .i64 b.w) ∧ w'.cell? ⟨X, 3, none⟩ = some (.slice A1 b.cs.length p1) ∧ w'.cell? ⟨X, 4, none⟩ = some (.slice A2 b.hs.length p2) ∧ w'.cell? ⟨X, 5, none⟩ = some (.slice A3 b.os.length p3))) rfl (by kernel_rfl) (by kernel_rfl) (by kernel_rfl) (by kernel_rfl) ⟨a0, a1, a2, a3, a4, a5⟩ (fun hHeld => ?_)
        clear a0 a1 a2 a3 a4 a5 af az
        obtain ⟨wd, hwd⟩ : ∃ wd, wr.drew = wd := ⟨_, rfl⟩
        have HX_wd : Hid (BoxB wd X b A1 A2 A3 p1 p2 p3) := Lib.hid (by rw [← hwd]; exact HX_wr.out)
        have HO_wd : Hid (OwB wd (X + 1) b A1 A2 A3 p1 p2 p3) := Lib.hid (by rw [← hwd]; exact HW.out.drew)
        have HR_wd : Hid (wd.heap[w.heap.size]? = some (.cells #[.int .i64 0, .int .i64 0, .int .i64 0, .slice none 0 0, .slice none 0 0, .slice none 0 0] 27 (0, 0))) := Lib.hid (by rw [← hwd]; exact HR.out)
        have HP_wd : Hid (wd.heap[PB]? = some (.cells cs 9 (0, 0))) := Lib.hid (by rw [← hwd]; exact HP.out)
        have HB_wd : Hid (Below w.heap.size w wd) := Lib.hid (by rw [← hwd]; exact hbw.drew)
        have hdX : X < wd.heap.size := HX_wd.out.lt
        have hdP : PB < wd.heap.size := (Array.getElem?_eq_some_iff.1 HP_wd.out).1
        rw [hwd] at hHeld ⊢
        clear hwd c0
        simp only [List.dropLast]
        refine wpAnyH_take (i := 0) (v := ?v21) rfl (by kernel_rfl) (by kernel_rfl) (by kernel_rfl) (fun _ _ _ h => h) (Or.inl ⟨by rfl, ?hy21⟩) (by assumption) ?rest21
        case hy21 => (intro w hSw; (try dsimp only at hSw); go_simp; (try with_reducible rfl))
        ((try simp only [Act.put]); (try simp only [List.setIfInBounds_toArray]); (repeat (first | simp only [List.set_cons_succ] | simp only [List.set_cons_zero])))
        refine wpAnyH_take (i := 1) (v := ?v22) rfl (by kernel_rfl) (by kernel_rfl) (by kernel_rfl) (fun _ _ _ h => h) (Or.inl ⟨by rfl, ?hy22⟩) (by assumption) ?rest22
        case hy22 => (intro w hSw; (try dsimp only at hSw); go_simp; (try with_reducible rfl))
        ((try simp only [Act.put]); (try simp only [List.setIfInBounds_toArray]); (repeat (first | simp only [List.set_cons_succ] | simp only [List.set_cons_zero])))
        refine wpAnyH_ready (rs := [2]) (by kernel_rfl) (by simp) ?_
        refine AllReadyH.cons rfl (fun K hK => ?_) ?_
        · skip
          go_simp
          refine (HSp.out _).mono ?_
          rintro e w2 ⟨AP, capP, rfl, how2, hb2⟩
          have z2 := hb2.size
          have HX_w2 : Hid (BoxB w2 X b A1 A2 A3 p1 p2 p3) := Lib.hid (heap_below hb2 hdX HX_wd.out)
          have HO_w2 := Lib.hid (HO_wd.out.below hb2)
          have HR_w2 := Lib.hid (heap_below hb2 (by omega) HR_wd.out)
          have HP_w2 := Lib.hid (heap_below hb2 hdP HP_wd.out)
          have HB_w2 := Lib.hid (HB_wd.out.trans (hb2.mono (by omega)))
          have HRd2 := Lib.hid how2.rd
          clear hb2 how2
          go_simp
          refine hK.out _ _ ⟨blk_cell HX_w2.out 0, blk_cell HX_w2.out 1, blk_cell HX_w2.out 2, blk_cell HX_w2.out 3, blk_cell HX_w2.out 4, blk_cell HX_w2.out 5⟩ (fun hHeld => ?_)
          clear hK K
          ((try simp only [Act.put]); (try simp only [List.setIfInBounds_toArray]); (repeat (first | simp only [List.set_cons_succ] | simp only [List.set_cons_zero])))
          refine wpAnyH_ready (rs := [3]) (by kernel_rfl) (by simp) ?_
          refine AllReadyH.cons rfl (fun K hK => ?_) ?_
          · skip
            go_simp
            refine (s_l21Take (X + 1) b A1 A2 A3 p1 p2 p3 P _ _ _ HRd2.out HO_w2.out (by omega) (by have := HL.out; omega) HNe.out).mono ?_
            rintro e w3 ⟨C1, C2, C3, q1, q2, q3, rfl, hO3, hb3, hf3⟩
            have z3 := hb3.size
            have HX_w3 : Hid (BoxB w3 X b A1 A2 A3 p1 p2 p3) := Lib.hid (heap_below hb3 (by omega) HX_w2.out)
            have HR_w3 := Lib.hid (heap_below hb3 (by omega) HR_w2.out)
            have HP_w3 := Lib.hid (hf3.box HP_w2.out (by decide))
            have HB_w3 := Lib.hid (HB_w2.out.trans (hb3.mono (by omega)))
            have HO_w3 := Lib.hid hO3
            have HLen := Lib.hid (takeS_len (b := b) (w := P))
            have HL0 := Lib.hid HL.out
            obtain ⟨b', hb'⟩ : ∃ b', takeS b P = b' := ⟨_, rfl⟩
            rw [hb'] at HO_w3 HS1 HLen ⊢
            unfold bkVal
            have hX3l : X < w3.heap.size := HX_w3.out.lt
            clear hb3 hf3 hO3 hb'
            go_simp
            refine hK.out _ _ ⟨blk_cell HX_w3.out 0, blk_cell HX_w3.out 1, blk_cell HX_w3.out 2, blk_cell HX_w3.out 3, blk_cell HX_w3.out 4, blk_cell HX_w3.out 5⟩ (fun hHeld => ?_)
            clear hK K
            ((try simp only [Act.put]); (try simp only [List.setIfInBounds_toArray]); (repeat (first | simp only [List.set_cons_succ] | simp only [List.set_cons_zero])))
            refine wpAnyH_done (by kernel_rfl) ?_ _
            intro KK hKK
            obtain ⟨_, b0, b1, b2, b3, b4, b5, bf, bz⟩ := own6 (g := X) (Below.refl _ w3) (by omega) HX_w3.out
            have x0 := (six_set HX_w3.out (.int .i64 b'.t)).1
            have x1 := (six_set x0 (.int .i64 b'.n)).2.1
            have x2 := (six_set x1 (.int .i64 b'.w)).2.2.1
            have x3 := (six_set x2 (.slice C1 b'.cs.length q1)).2.2.2.1
            have x4 := (six_set x3 (.slice C2 b'.hs.length q2)).2.2.2.2.1
            have x5 := (six_set x4 (.slice C3 b'.os.length q3)).2.2.2.2.2
            have HX_v := Lib.hid x5
            have HO_v := Lib.hid (HO_w3.out.six_aside (B' := X + 1) (R := X) ⟨Nat.le_refl _, by omega⟩ HX_w3.out (.int .i64 b'.t) (.int .i64 b'.n) (.int .i64 b'.w) (.slice C1 b'.cs.length q1) (.slice C2 b'.hs.length q2) (.slice C3 b'.os.length q3))
            have HR_v := Lib.hid (heap_far' (i := 5) (u := .slice C3 b'.os.length q3) (Nat.ne_of_lt hXR) (heap_far' (i := 4) (u := .slice C2 b'.hs.length q2) (Nat.ne_of_lt hXR) (heap_far' (i := 3) (u := .slice C1 b'.cs.length q1) (Nat.ne_of_lt hXR) (heap_far' (i := 2) (u := .int .i64 b'.w) (Nat.ne_of_lt hXR) (heap_far' (i := 1) (u := .int .i64 b'.n) (Nat.ne_of_lt hXR) (heap_far' (i := 0) (u := .int .i64 b'.t) (Nat.ne_of_lt hXR) HR_w3.out))))))
            have hPX : PB ≠ X := fun e => by
              have h1 := HP_w3.out
              have h2 := HX_w3.out
              unfold BoxB at h2
              rw [e, h2] at h1
              injection h1 with h1
              injection h1 with _ h1
              exact absurd h1 (by decide)
            have HP_v := Lib.hid (heap_far' (i := 5) (u := .slice C3 b'.os.length q3) hPX (heap_far' (i := 4) (u := .slice C2 b'.hs.length q2) hPX (heap_far' (i := 3) (u := .slice C1 b'.cs.length q1) hPX (heap_far' (i := 2) (u := .int .i64 b'.w) hPX (heap_far' (i := 1) (u := .int .i64 b'.n) hPX (heap_far' (i := 0) (u := .int .i64 b'.t) hPX HP_w3.out))))))
            have HB_v := Lib.hid (below_setB (i := 5) (below_setB (i := 4) (below_setB (i := 3) (below_setB (i := 2) (below_setB (i := 1) (below_setB (i := 0) HB_w3.out hXB (.int .i64 b'.t)) hXB (.int .i64 b'.n)) hXB (.int .i64 b'.w)) hXB (.slice C1 b'.cs.length q1)) hXB (.slice C2 b'.hs.length q2)) hXB (.slice C3 b'.os.length q3))
            obtain ⟨v, hv⟩ : ∃ v, ((((((w3.setCell ⟨X, 0, none⟩ (.int .i64 b'.t)).setCell ⟨X, 1, none⟩ (.int .i64 b'.n)).setCell ⟨X, 2, none⟩ (.int .i64 b'.w)).setCell ⟨X, 3, none⟩ (.slice C1 b'.cs.length q1)).setCell ⟨X, 4, none⟩ (.slice C2 b'.hs.length q2)).setCell ⟨X, 5, none⟩ (.slice C3 b'.os.length q3)) = v := ⟨_, rfl⟩
            rw [hv] at HX_v HO_v HR_v HP_v HB_v
            clear x0 x1 x2 x3 x4 x5 HX_w3 HO_w3 HR_w3 HP_w3 HB_w3
            go_simp
            refine hKK _ _ (NoPanic.normal ?_)
            clear hv b0 b1 b2 b3 b4 b5 bf bz
            go_wp2_with fail
            go_roundw
            case rel => exact ⟨k + 1, b', C1, C2, C3, q1, q2, q3, by omega, by go_num, HS1, Lib.hid (by have h1 := HLen.out; have h2 := HL0.out; omega), HX_v.out, HO_v.out, HR_v.out, HP_v.out, HB_v.out⟩
            case measure => simp [intOf]; omega
          exact AllReadyH.nil
        exact AllReadyH.nil
      · obtain rfl : k = N := by omega
        have HAll := Lib.hid (show readS bk0 LS = b by have h := HInv.out; rwa [List.take_of_length_le (by rw [HNL.out]; exact Nat.le_refl _)] at h)
        obtain ⟨_, a0, a1, a2, a3, a4, a5, af, az⟩ := own6 (g := X) (Below.refl _ wr) (by omega) HX_wr.out
        obtain ⟨_, r0, r1, r2, r3, r4, r5, rf, rz⟩ := own6 (g := w.heap.size) (Below.refl _ wr) (by omega) HR.out
        have HRd := Lib.hid HW.out.rd
        obtain ⟨hl1, hl2, hl3⟩ := HL.out
        have HMs := Lib.hid (HMiss.out b HAll.out)
        clear HInv HMiss HAll
        by_cases hse : s = ⟨#[]⟩
        · have HN := Lib.hid (show BookIs s.data.toList 0 0 0 [] [] [] false by rw [hse]; exact book_empty)
          subst hse
          go_wp2_with fail
          refine bodyPost_ret (v := .tuple #[.agg #[.int .i64 0, .int .i64 0, .int .i64 0, .slice none 0 0, .slice none 0 0, .slice none 0 0], .bool false]) (by simp [results, Tryz.results12, go_sem, *]) rfl (RdB.zero HN.out ?_)
          (first | ((repeat' first | (with_reducible (first | exact Below.refl _ _ | assumption | refine Below.setCell ?_ ?_ _ | refine Below.alloc ?_ ?_ _ | refine Below.drew ?_ | refine below_drewN ?_ _ | refine Below.trans ?_ (Below.mono (by assumption) ?_))) | omega | (simp; omega) | (simp; done)); done) | (repeat' first | exact Below.refl _ _ | assumption | refine Below.setCell ?_ (by first | omega | (simp; omega) | (simp; done)) _ | refine Below.alloc ?_ (by first | omega | (simp; omega) | (simp; done)) _ | refine Below.drew ?_ | refine below_drewN ?_ _ | refine Below.trans ?_ (Below.mono (by assumption) (by first | omega | (simp; omega) | (simp; done)))))
        · have hse1 : s.toList.isEmpty = false := by
            have h := neq_str hse
            cases hx : s.toList with
            | nil => rw [hx] at h; simp at h
            | cons a r => rfl
          have HSE := Lib.hid (show s.data.toList ≠ [] from fun h => hse (by
            have := str_self s
            unfold Str at this
            rw [this, h]))
          clear hse
          go_wp2_with fail
          refine (s_BookText b.t b.n b.w b.cs b.hs b.os _ _ _ _ _ _ _ (by omega) (by omega) (by omega) HRd.out).mono ?_
          rintro e w3 ⟨rfl, hb3⟩
          have z3 := hb3.size
          obtain ⟨t, ht', ht⟩ := str_of (bookL b.t b.n b.w b.cs b.hs b.os)
          rw [ht']
          clear ht'
          have hX3 := heap_below hb3 hXl HX_wr.out
          have hR3 := heap_below hb3 hRl HR.out
          have HW3 := Lib.hid (HW.out.below hb3)
          obtain ⟨_, b0, b1, b2, b3, b4, b5, bf, bz⟩ := own6 (g := X) (Below.refl _ w3) (by omega) hX3
          obtain ⟨_, s0, s1, s2, s3, s4, s5, sf, sz⟩ := own6 (g := w.heap.size) (Below.refl _ w3) (by omega) hR3
          have hbB : Below w.heap.size w w3 := by (first | ((repeat' first | (with_reducible (first | exact Below.refl _ _ | assumption | refine Below.setCell ?_ ?_ _ | refine Below.alloc ?_ ?_ _ | refine Below.drew ?_ | refine below_drewN ?_ _ | refine Below.trans ?_ (Below.mono (by assumption) ?_))) | omega | (simp; omega) | (simp; done)); done) | (repeat' first | exact Below.refl _ _ | assumption | refine Below.setCell ?_ (by first | omega | (simp; omega) | (simp; done)) _ | refine Below.alloc ?_ (by first | omega | (simp; omega) | (simp; done)) _ | refine Below.drew ?_ | refine below_drewN ?_ _ | refine Below.trans ?_ (Below.mono (by assumption) (by first | omega | (simp; omega) | (simp; done)))))
          have HRR := Lib.hid hR3
          clear hb3 hX3 hR3 a0 a1 a2 a3 a4 a5 af r0 r1 r2 r3 r4 r5 rf HX_wr HR
          by_cases et : t = s
          · have HN := Lib.hid (book_hit (s := s.data.toList) HSE.out (eq_str ht.out et))
            have HFin := Lib.hid (show ∀ u0 u1 u2 u3 u4 u5 : Value, OwB ((((((w3.setCell ⟨w.heap.size, 0, none⟩ u0).setCell ⟨w.heap.size, 1, none⟩ u1).setCell ⟨w.heap.size, 2, none⟩ u2).setCell ⟨w.heap.size, 3, none⟩ u3).setCell ⟨w.heap.size, 4, none⟩ u4).setCell ⟨w.heap.size, 5, none⟩ u5) w.heap.size b A1 A2 A3 p1 p2 p3 from fun u0 u1 u2 u3 u4 u5 => ((HW3.out.six_aside (by omega) HRR.out u0 u1 u2 u3 u4 u5)))
            subst et
            clear HMs
            go_wp2_with fail
            refine bodyPost_ret (v := .tuple #[bkVal b A1 A2 A3 p1 p2 p3, .bool true]) (by simp [bkVal, results, Tryz.results12, go_sem, *]) rfl ⟨b, A1, A2, A3, p1, p2, p3, true, rfl, HFin.out _ _ _ _ _ _, HN.out, ?_⟩
            (first | ((repeat' first | (with_reducible (first | exact Below.refl _ _ | assumption | refine Below.setCell ?_ ?_ _ | refine Below.alloc ?_ ?_ _ | refine Below.drew ?_ | refine below_drewN ?_ _ | refine Below.trans ?_ (Below.mono (by assumption) ?_))) | omega | (simp; omega) | (simp; done)); done) | (repeat' first | exact Below.refl _ _ | assumption | refine Below.setCell ?_ (by first | omega | (simp; omega) | (simp; done)) _ | refine Below.alloc ?_ (by first | omega | (simp; omega) | (simp; done)) _ | refine Below.drew ?_ | refine below_drewN ?_ _ | refine Below.trans ?_ (Below.mono (by assumption) (by first | omega | (simp; omega) | (simp; done)))))
          · have HN := Lib.hid (HMs.out (ne_str ht.out et))
            have hneq := neq_str et
            clear et HMs
            go_wp2_with fail
            refine bodyPost_ret (v := .tuple #[.agg #[.int .i64 0, .int .i64 0, .int .i64 0, .slice none 0 0, .slice none 0 0, .slice none 0 0], .bool false]) (by simp [results, Tryz.results12, go_sem, *]) rfl (RdB.zero HN.out ?_)
            (first | ((repeat' first | (with_reducible (first | exact Below.refl _ _ | assumption | refine Below.setCell ?_ ?_ _ | refine Below.alloc ?_ ?_ _ | refine Below.drew ?_ | refine below_drewN ?_ _ | refine Below.trans ?_ (Below.mono (by assumption) ?_))) | omega | (simp; omega) | (simp; done)); done) | (repeat' first | exact Below.refl _ _ | assumption | refine Below.setCell ?_ (by first | omega | (simp; omega) | (simp; done)) _ | refine Below.alloc ?_ (by first | omega | (simp; omega) | (simp; done)) _ | refine Below.drew ?_ | refine below_drewN ?_ _ | refine Below.trans ?_ (Below.mono (by assumption) (by first | omega | (simp; omega) | (simp; done)))))
end Go.Proofs.YtcjbjpobpefehaaGreatDoor

/- The program's AccPast returns what the reference's returns, and memory of its own, for all arguments; no condition. -/
import Derived.Test.YtplchgkppkibnaaRows
import Derived.Test.YtplchgkppkibnaaPast
import Derived.Test.YtplchgkppkibnaaPstL
import Derived.Test.YtplchgkppkibnaaInts
import Derived.Deep.RegionHeld3
namespace Go.Proofs.Ytplchgkppkibnaa
open Go.ChangeShapes Go.WideShapes Go.ChangeAt Go.RowKit Go.Joins Go.Deep

theorem l_toPostingS' (ps : List Pst) (A : Option Addr) (cap : Nat) (w : World) (hl : ps.length ≤ 1048576) (hls : ∀ p ∈ ps, p.L.length ≤ 1048576) (hr : RdP w w.heap.size A ps) :
    Calls Try.prog 17 #[.slice A ps.length cap] w fun e w' => ∃ qs : List Pst, e = .returned (.slice (some ⟨w.heap.size, 0, none⟩) qs.length qs.length) ∧ qs.map Pst.pl = ps.map Pst.pl ∧ OwP w' w.heap.size (some ⟨w.heap.size, 0, none⟩) qs.length qs ∧ Below w.heap.size w w' :=
  (l_toPostingS ps A cap w hl hls hr).mono fun e w' ⟨qs, he, hpl, how, hb⟩ => ⟨qs, by rw [he, pl_length hpl], hpl, by rw [← pl_length hpl] at how; exact how, hb⟩
theorem pl_all {ps qs : List Pst} (h : qs.map Pst.pl = ps.map Pst.pl) {n : Nat} (hn : ∀ p ∈ ps, p.L.length ≤ n) : ∀ q ∈ qs, q.L.length ≤ n := by
  intro q hq
  have : q.pl ∈ ps.map Pst.pl := by rw [← h]; exact List.mem_map.2 ⟨q, hq, rfl⟩
  obtain ⟨p, hp, e⟩ := List.mem_map.1 this
  have := hn p hp
  have e2 : p.L = q.L := congrArg Prod.snd e
  rwa [e2] at this
theorem pl_tot {ps qs : List Pst} (h : qs.map Pst.pl = ps.map Pst.pl) : totP qs = totP ps := by rw [totP_pl, totP_pl, h]
theorem lx1 {n : Nat} (h : n ≤ 1048576) : decide ((1 : Int) + (n : Nat) < 0) = false := decide_eq_false (by omega)
set_option maxRecDepth 100000 in
set_option maxHeartbeats 4000000 in
theorem l_FnExactAccPast (ps : List Pst) (A : Option Addr) (cap : Nat) (k c : Int) (w : World) (hm : ps.length ≤ maxLen) (hml : ∀ p ∈ ps, p.L.length ≤ maxLen) (hr : RdP w w.heap.size A ps) :
    Calls Try.prog 4 #[.slice A ps.length cap, .agg #[.int .i64 k, .int .i64 c]] w fun e w' => e = .returned (.bool true) ∧ Below w.heap.size w w' := by
  have HR := Lib.hid hr
  have HM := Lib.hid hm
  have HML := Lib.hid hml
  clear hr hm hml
  by_cases hs : (ps.length : Int) + totP ps ≤ 1048576
  · have hl : ps.length ≤ 1048576 := by omega
    have hls : ∀ p ∈ ps, p.L.length ≤ 1048576 := fun p hp => by have := totP_mem hp; omega
    obtain ⟨l2, HS, HI, hl2⟩ : ∃ l2 : List Int, Hid (∀ (qs : List Pst) (A : Option Addr) (cap : Nat) (W : World), qs.map Pst.pl = ps.map Pst.pl → RdP W W.heap.size A qs → Calls Try.prog 16 #[.slice A qs.length cap, .agg #[.int .i64 k, .int .i64 c]] W (IntsPost W l2)) ∧
        Hid (∀ (qs : List Pst) (A : Option Addr) (cap : Nat) (W : World), qs.map Pst.pl = ps.map Pst.pl → RdP W W.heap.size A qs → Calls Try.prog 19 #[.slice A qs.length cap, .agg #[.int .i64 k, .int .i64 c]] W (IntsPost W l2)) ∧ l2.length ≤ 1048576 :=
      ⟨past (ps.map Pst.pl) k c, Lib.hid fun qs A cap W e hq => by rw [← e]; exact s_AccPast qs A cap k c W (by rw [pl_length e]; exact hl) (pl_all e hls) (by rw [pl_length e, pl_tot e]; omega) hq,
        Lib.hid fun qs A cap W e hq => by rw [← e]; exact i_AccPast qs A cap k c W (by rw [pl_length e]; exact hl) (pl_all e hls) (by rw [pl_length e, pl_tot e]; omega) hq, Nat.le_trans (past_len _ k c) (by rw [List.length_map]; exact hl)⟩
    have hneg : decide ((1048576 : Int) - (ps.length : Int) - (totP ps : Int) < 0) = false := decide_eq_false (by omega)
    obtain ⟨Lg, hLg, hLg0⟩ : ∃ Lg : Int, (1 : Int) + (l2.length : Nat) = Lg ∧ decide (Lg < 0) = false := ⟨_, rfl, lx1 hl2⟩
    have HLG := Lib.hid hLg
    have HLS := Lib.hid hls
    clear hLg hls
    go_enter Try.func4, Try.ntmps4
    go_wp2_with fail
    refine (l_szPostingS_ok ps A cap 1048576 _ (by omega) ((HR.out.below (by (first | ((repeat' first | (with_reducible (first | exact Below.refl _ _ | assumption | refine Below.setCell ?_ ?_ _ | refine Below.alloc ?_ ?_ _ | refine Below.drew ?_ | refine below_drewN ?_ _ | refine Below.trans ?_ (Below.mono (by assumption) ?_))) | omega | (simp; omega) | (simp; done)); done) | (repeat' first | exact Below.refl _ _ | assumption | refine Below.setCell ?_ (by first | omega | (simp; omega) | (simp; done)) _ | refine Below.alloc ?_ (by first | omega | (simp; omega) | (simp; done)) _ | refine Below.drew ?_ | refine below_drewN ?_ _ | refine Below.trans ?_ (Below.mono (by assumption) (by first | omega | (simp; omega) | (simp; done))))))).more (by simp)) hs).mono ?_
    rintro e w1 ⟨rfl, hb1⟩
    have z1 := hb1.size
    try simp at z1
    obtain ⟨ah, a0, a1, af, az⟩ := own2 (g := w.heap.size) hb1 (by first | omega | (simp; omega) | (simp; done)) (by (first | ((repeat' first | (with_reducible (first | assumption | (refine heap_at ?_; (first | rfl | (simp; done))) | refine heap_drew ?_ | refine heap_drewN ?_ | refine heap_past ?_ ?_ | refine heap_far ?_ ?_)) | (simp; done) | (simp; omega)); done) | (repeat' first | assumption | (refine heap_at ?_; (simp; done)) | refine heap_drew ?_ | refine heap_drewN ?_ | (refine heap_past ?_ ?_ <;> try (simp; done)) | (refine heap_far ?_ ?_ <;> try (simp; done)))))
    go_wp2_with fail
    go_region_held3 (fun w' => w'.cell? ⟨w.heap.size, 0, none⟩ = some (.int .i64 k) ∧ w'.cell? ⟨w.heap.size, 1, none⟩ = some (.int .i64 c)) (first | exact ⟨a0, a1⟩ | exact ⟨b0, b1⟩ | exact ⟨c0, c1⟩ | exact ⟨d0, d1⟩)
      (first | (go_at_call 17; refine (l_toPostingS' ps A cap _ hl HLS.out ((HR.out.below (by (first | ((repeat' first | (with_reducible (first | exact Below.refl _ _ | assumption | refine Below.setCell ?_ ?_ _ | refine Below.alloc ?_ ?_ _ | refine Below.drew ?_ | refine below_drewN ?_ _ | refine Below.trans ?_ (Below.mono (by assumption) ?_))) | omega | (simp; omega) | (simp; done)); done) | (repeat' first | exact Below.refl _ _ | assumption | refine Below.setCell ?_ (by first | omega | (simp; omega) | (simp; done)) _ | refine Below.alloc ?_ (by first | omega | (simp; omega) | (simp; done)) _ | refine Below.drew ?_ | refine below_drewN ?_ _ | refine Below.trans ?_ (Below.mono (by assumption) (by first | omega | (simp; omega) | (simp; done))))))).more (by first | omega | (simp; omega)))).mono ?_; rintro e w2 ⟨qs2, rfl, hpl2, how2, hb2⟩; have z2 := hb2.size; (try simp at z2); have HO2 := Lib.hid how2.rd; have HPL2 := Lib.hid hpl2; clear how2 hpl2; obtain ⟨bh, b0, b1, bf, bz⟩ := own2 (g := w.heap.size) hb2 (by first | omega | (simp; omega) | (simp; done)) (by (first | ((repeat' first | (with_reducible (first | assumption | (refine heap_at ?_; (first | rfl | (simp; done))) | refine heap_drew ?_ | refine heap_drewN ?_ | refine heap_past ?_ ?_ | refine heap_far ?_ ?_)) | (simp; done) | (simp; omega)); done) | (repeat' first | assumption | (refine heap_at ?_; (simp; done)) | refine heap_drew ?_ | refine heap_drewN ?_ | (refine heap_past ?_ ?_ <;> try (simp; done)) | (refine heap_far ?_ ?_ <;> try (simp; done))))))
             | (go_at_call 18; refine (l_toAcc k c _).mono ?_; rintro e w3 ⟨rfl, hb3⟩; have z3 := hb3.size; (try simp at z3); obtain ⟨ch, c0, c1, cf, cz⟩ := own2 (g := w.heap.size) hb3 (by first | omega | (simp; omega) | (simp; done)) (by (first | ((repeat' first | (with_reducible (first | assumption | (refine heap_at ?_; (first | rfl | (simp; done))) | refine heap_drew ?_ | refine heap_drewN ?_ | refine heap_past ?_ ?_ | refine heap_far ?_ ?_)) | (simp; done) | (simp; omega)); done) | (repeat' first | assumption | (refine heap_at ?_; (simp; done)) | refine heap_drew ?_ | refine heap_drewN ?_ | (refine heap_past ?_ ?_ <;> try (simp; done)) | (refine heap_far ?_ ?_ <;> try (simp; done))))))
             | (go_at_call 16; refine (HS.out qs2 _ _ _ HPL2.out (by first | exact HO2.out | exact (HO2.out.below (by first | exact hb3 | (first | ((repeat' first | (with_reducible (first | exact Below.refl _ _ | assumption | refine Below.setCell ?_ ?_ _ | refine Below.alloc ?_ ?_ _ | refine Below.drew ?_ | refine below_drewN ?_ _ | refine Below.trans ?_ (Below.mono (by assumption) ?_))) | omega | (simp; omega) | (simp; done)); done) | (repeat' first | exact Below.refl _ _ | assumption | refine Below.setCell ?_ (by first | omega | (simp; omega) | (simp; done)) _ | refine Below.alloc ?_ (by first | omega | (simp; omega) | (simp; done)) _ | refine Below.drew ?_ | refine below_drewN ?_ _ | refine Below.trans ?_ (Below.mono (by assumption) (by first | omega | (simp; omega) | (simp; done))))))).more (by omega))).mono ?_; rintro e w4 ⟨A4, cap4, rfl, how4, hb4⟩; have z4 := hb4.size; (try simp at z4); have OW4 := Lib.hid how4; clear how4; obtain ⟨dh, d0, d1, df, dz⟩ := own2 (g := w.heap.size) hb4 (by first | omega | (simp; omega) | (simp; done)) (by (first | ((repeat' first | (with_reducible (first | assumption | (refine heap_at ?_; (first | rfl | (simp; done))) | refine heap_drew ?_ | refine heap_drewN ?_ | refine heap_past ?_ ?_ | refine heap_far ?_ ?_)) | (simp; done) | (simp; omega)); done) | (repeat' first | assumption | (refine heap_at ?_; (simp; done)) | refine heap_drew ?_ | refine heap_drewN ?_ | (refine heap_past ?_ ?_ <;> try (simp; done)) | (refine heap_far ?_ ?_ <;> try (simp; done)))))))
    all_goals
      have hbw4 : Below w.heap.size w w4 := by (first | ((repeat' first | (with_reducible (first | exact Below.refl _ _ | assumption | refine Below.setCell ?_ ?_ _ | refine Below.alloc ?_ ?_ _ | refine Below.drew ?_ | refine below_drewN ?_ _ | refine Below.trans ?_ (Below.mono (by assumption) ?_))) | omega | (simp; omega) | (simp; done)); done) | (repeat' first | exact Below.refl _ _ | assumption | refine Below.setCell ?_ (by first | omega | (simp; omega) | (simp; done)) _ | refine Below.alloc ?_ (by first | omega | (simp; omega) | (simp; done)) _ | refine Below.drew ?_ | refine below_drewN ?_ _ | refine Below.trans ?_ (Below.mono (by assumption) (by first | omega | (simp; omega) | (simp; done)))))
      have bkw := Lib.hid OW4.out.block
      have DH := Lib.hid dh
      have hz4 : w.heap.size < w4.heap.size := dz
      clear hb1 hb2 hb3 hb4 a0 a1 af ah az b0 b1 bf bh bz c0 c1 cf ch cz dh d0 d1 df dz z1 z2 z3 z4
      go_wp2_with fail
      refine (l_toPostingS' ps A cap _ hl HLS.out ((HR.out.below hbw4).more (by omega))).mono ?_
      rintro e w5 ⟨qs5, rfl, hpl5, how5, hb5⟩
      have z5 := hb5.size
      have OX5 := Lib.hid how5
      have HPL5 := Lib.hid hpl5
      clear how5 hpl5
      obtain ⟨eh, e0, e1, ef, ez⟩ := own2 (g := w.heap.size) hb5 (by first | omega | (simp; omega) | (simp; done)) (by (first | ((repeat' first | (with_reducible (first | assumption | (refine heap_at ?_; (first | rfl | (simp; done))) | refine heap_drew ?_ | refine heap_drewN ?_ | refine heap_past ?_ ?_ | refine heap_far ?_ ?_)) | (simp; done) | (simp; omega)); done) | (repeat' first | assumption | (refine heap_at ?_; (simp; done)) | refine heap_drew ?_ | refine heap_drewN ?_ | (refine heap_past ?_ ?_ <;> try (simp; done)) | (refine heap_far ?_ ?_ <;> try (simp; done)))))
      go_wp2_with fail
      refine (l_toAcc k c _).mono ?_
      rintro e w6 ⟨rfl, hb6⟩
      have z6 := hb6.size
      obtain ⟨fh, f0, f1, ff, fz⟩ := own2 (g := w.heap.size) hb6 (by first | omega | (simp; omega) | (simp; done)) (by (first | ((repeat' first | (with_reducible (first | assumption | (refine heap_at ?_; (first | rfl | (simp; done))) | refine heap_drew ?_ | refine heap_drewN ?_ | refine heap_past ?_ ?_ | refine heap_far ?_ ?_)) | (simp; done) | (simp; omega)); done) | (repeat' first | assumption | (refine heap_at ?_; (simp; done)) | refine heap_drew ?_ | refine heap_drewN ?_ | (refine heap_past ?_ ?_ <;> try (simp; done)) | (refine heap_far ?_ ?_ <;> try (simp; done)))))
      go_wp2_with fail
      refine (HI.out qs5 _ _ _ HPL5.out ((OX5.out.rd.below hb6).more z6)).mono ?_
      rintro e w7 ⟨A7, cap7, rfl, how7, hb7⟩
      have z7 := hb7.size
      have c7 : Below w4.heap.size w4 w7 := (hb5.trans (hb6.mono z5)).trans (hb7.mono (by omega))
      have d7 : Below w5.heap.size w5 w7 := hb6.trans (hb7.mono z6)
      have OG7 := Lib.hid how7
      have bkg := Lib.hid how7.block
      clear how7
      go_wp2_with fail
      refine (l_eqIntS l2 _ _ _ _ _ hl2 OG7.out.rd ((OW4.out.rd.below c7).more (by omega))).mono ?_
      rintro e w8 ⟨rfl, hb8⟩
      have z8 := hb8.size
      have hbw8 : Below w.heap.size w w8 := by (first | ((repeat' first | (with_reducible (first | exact Below.refl _ _ | assumption | refine Below.setCell ?_ ?_ _ | refine Below.alloc ?_ ?_ _ | refine Below.drew ?_ | refine below_drewN ?_ _ | refine Below.trans ?_ (Below.mono (by assumption) ?_))) | omega | (simp; omega) | (simp; done)); done) | (repeat' first | exact Below.refl _ _ | assumption | refine Below.setCell ?_ (by first | omega | (simp; omega) | (simp; done)) _ | refine Below.alloc ?_ (by first | omega | (simp; omega) | (simp; done)) _ | refine Below.drew ?_ | refine below_drewN ?_ _ | refine Below.trans ?_ (Below.mono (by assumption) (by first | omega | (simp; omega) | (simp; done)))))
      go_wp2_with fail
      refine (l_toPostingS' ps A cap _ hl HLS.out ((HR.out.below hbw8).more (by omega))).mono ?_
      rintro e w9 ⟨qs9, rfl, hpl9, how9, hb9⟩
      have z9 := hb9.size
      have hpl95 : qs9.map Pst.pl = qs5.map Pst.pl := hpl9.trans HPL5.out.symm
      rw [pl_length hpl95]
      have HP95 := Lib.hid hpl95
      have HO9 := Lib.hid how9.rd
      clear how9 hpl9 hpl95
      go_wp2_with fail
      refine (l_eqPostingS qs5 qs9 _ _ _ _ _ HP95.out (by rw [pl_length HPL5.out]; exact hl) (pl_all HPL5.out HLS.out) ((OX5.out.rd.below (d7.trans ((hb8.trans (hb9.mono z8)).mono (by omega)))).more (by omega)) HO9.out).mono ?_
      rintro e w10 ⟨rfl, hb10⟩
      have z10 := hb10.size
      have e10 : Below w7.heap.size w7 w10 := (hb8.trans (hb9.mono z8)).trans (hb10.mono (by omega))
      have c10 := c7.trans (e10.mono (by omega))
      have d10 := d7.trans (e10.mono (by omega))
      have OG10 := Lib.hid (OG7.out.below e10)
      have OW10 := Lib.hid (OW4.out.below c10)
      have OX10 := Lib.hid (OX5.out.below d10)
      have GH10 := Lib.hid (show w10.heap[w.heap.size]? = some (.cells #[.int .i64 k, .int .i64 c] 34 (0, 0)) from heap_below c10 hz4 DH.out)
      have hbw10 : Below w.heap.size w w10 := by (first | ((repeat' first | (with_reducible (first | exact Below.refl _ _ | assumption | refine Below.setCell ?_ ?_ _ | refine Below.alloc ?_ ?_ _ | refine Below.drew ?_ | refine below_drewN ?_ _ | refine Below.trans ?_ (Below.mono (by assumption) ?_))) | omega | (simp; omega) | (simp; done)); done) | (repeat' first | exact Below.refl _ _ | assumption | refine Below.setCell ?_ (by first | omega | (simp; omega) | (simp; done)) _ | refine Below.alloc ?_ (by first | omega | (simp; omega) | (simp; done)) _ | refine Below.drew ?_ | refine below_drewN ?_ _ | refine Below.trans ?_ (Below.mono (by assumption) (by first | omega | (simp; omega) | (simp; done)))))
      have hzz : w4.heap.size ≤ w5.heap.size ∧ w5.heap.size ≤ w6.heap.size ∧ w6.heap.size ≤ w10.heap.size := by omega
      have hCX := Lib.hid (show (∀ i, (Value.slice (some ⟨w4.heap.size, 0, none⟩) qs5.length qs5.length).ownBlock = some i → i < w5.heap.size) ∧ ∀ p ∈ qs5, ∀ i, p.val.ownBlock = some i → i < w5.heap.size from
        ⟨fun i e => (OX5.out.1.block i e).2, fun p hp i e => ((OX5.out.2.1 p hp).block i e).2⟩)
      clear OG7 OW4 OX5 c7 d7 c10 d10 e10 hb5 hb6 hb7 hb8 hb9 hb10 e0 e1 ef eh ez f0 f1 ff fh fz HO9 HP95 z5 z6 z7 z8 z9 z10
      go_wp2_with fail
      refine (l_markPostingS w4.heap.size w5.heap.size qs5 _ _ _ _ (by decide) (by rw [pl_length HPL5.out, pl_tot HPL5.out]; omega) (by rw [pl_length HPL5.out]; exact hl) (pl_all HPL5.out HLS.out) OX10.out hCX.out).mono ?_
      rintro e w11 ⟨k11, rfl, hk11, hin⟩
      have z11 := hin.size
      have hk11' : decide (k11 < 0) = false := decide_eq_false (by omega)
      have OG11 := Lib.hid (OG10.out.inside hin (fun i e => .inr (by have := (bkg.out i e).1; omega)))
      have OW11 := Lib.hid (OW10.out.inside hin (fun i e => .inl (bkw.out i e).2))
      have GH11 := Lib.hid ((hin.block _ (by omega) (.inl hz4)).trans GH10.out)
      have hbw11 : Below w.heap.size w w11 := hin.below hbw10 (by omega) (Nat.le_refl _)
      clear OG10 OW10 OX10 GH10 hin hCX hbw10
      go_wp2_with fail
      refine (l_eqIntS l2 _ _ _ _ _ hl2 (OG11.out.rd.more (by omega)) (OW11.out.rd.more (by omega))).mono ?_
      rintro e w12 ⟨rfl, hb12⟩
      have z12 := hb12.size
      have OG12 := Lib.hid (OG11.out.below hb12)
      have OW12 := Lib.hid (OW11.out.below hb12)
      have GH12 := Lib.hid (heap_below hb12 (by omega) GH11.out)
      have hbw12 : Below w.heap.size w w12 := by (first | ((repeat' first | (with_reducible (first | exact Below.refl _ _ | assumption | refine Below.setCell ?_ ?_ _ | refine Below.alloc ?_ ?_ _ | refine Below.drew ?_ | refine below_drewN ?_ _ | refine Below.trans ?_ (Below.mono (by assumption) ?_))) | omega | (simp; omega) | (simp; done)); done) | (repeat' first | exact Below.refl _ _ | assumption | refine Below.setCell ?_ (by first | omega | (simp; omega) | (simp; done)) _ | refine Below.alloc ?_ (by first | omega | (simp; omega) | (simp; done)) _ | refine Below.drew ?_ | refine below_drewN ?_ _ | refine Below.trans ?_ (Below.mono (by assumption) (by first | omega | (simp; omega) | (simp; done)))))
      clear OG11 OW11 GH11 hb12 hbw11
      go_wp2_with fail
      refine (l_markIntS _ _ (l2.map intCells) _ _ (by decide) (by decide) (by rw [List.length_map]; omega) OG12.out).mono ?_
      rintro e w13 ⟨he, hmk, hgr13⟩
      rw [List.length_map] at he hmk
      rw [HLG.out] at he
      subst he
      have HMK := Lib.hid (hmk _ _ _ rfl)
      have z13 := hgr13.size
      have OW13 := Lib.hid (OW12.out.grown hgr13 (by
        cases hv : (Value.slice A4 l2.length cap4).ownBlock with
        | none => exact .inl rfl
        | some k =>
          refine .inr (fun e => ?_)
          have h1 := bkw.out k hv
          have h2 := bkg.out k e.symm
          omega))
      have GH13 := Lib.hid (heap_grown hgr13 (fun e => by have h2 := bkg.out _ e.symm; omega) GH12.out)
      have hbw13 : Below w.heap.size w w13 := hbw12.grown hgr13 (by omega) (fun k e => by have := (bkg.out k e).1; omega)
      clear OG12 OW12 hmk hgr13 GH12 hbw12
      go_wp2_with fail
      refine (l_heldIntS _ _ _ _ _ (by decide) (by decide) (by omega) HMK.out).mono ?_
      rintro e _ ⟨he, rfl⟩
      rw [HLG.out] at he
      subst he
      obtain ⟨gh, g0, g1, gf, gz⟩ := own2 (Below.refl w13.heap.size w13) (Array.getElem?_eq_some_iff.1 GH13.out).1 GH13.out
      go_wp2_with fail
      go_region_held3 (fun w' => w'.cell? ⟨w.heap.size, 0, none⟩ = some (.int .i64 k) ∧ w'.cell? ⟨w.heap.size, 1, none⟩ = some (.int .i64 c)) (first | exact ⟨g0, g1⟩ | exact ⟨h0, h1⟩ | exact ⟨j0, j1⟩ | exact ⟨m0, m1⟩)
        (first | (go_at_call 17; refine (l_toPostingS' ps A cap _ hl HLS.out ((HR.out.below (by (first | ((repeat' first | (with_reducible (first | exact Below.refl _ _ | assumption | refine Below.setCell ?_ ?_ _ | refine Below.alloc ?_ ?_ _ | refine Below.drew ?_ | refine below_drewN ?_ _ | refine Below.trans ?_ (Below.mono (by assumption) ?_))) | omega | (simp; omega) | (simp; done)); done) | (repeat' first | exact Below.refl _ _ | assumption | refine Below.setCell ?_ (by first | omega | (simp; omega) | (simp; done)) _ | refine Below.alloc ?_ (by first | omega | (simp; omega) | (simp; done)) _ | refine Below.drew ?_ | refine below_drewN ?_ _ | refine Below.trans ?_ (Below.mono (by assumption) (by first | omega | (simp; omega) | (simp; done))))))).more (by first | omega | (simp; omega)))).mono ?_; rintro e w15 ⟨qs15, rfl, hpl15, how15, hb15⟩; have z15 := hb15.size; (try simp at z15); have HO15 := Lib.hid how15.rd; have HPL15 := Lib.hid hpl15; clear how15 hpl15; obtain ⟨hh, h0, h1, hf, hz⟩ := own2 (g := w.heap.size) hb15 (by first | omega | (simp; omega) | (simp; done)) (by (first | ((repeat' first | (with_reducible (first | assumption | (refine heap_at ?_; (first | rfl | (simp; done))) | refine heap_drew ?_ | refine heap_drewN ?_ | refine heap_past ?_ ?_ | refine heap_far ?_ ?_)) | (simp; done) | (simp; omega)); done) | (repeat' first | assumption | (refine heap_at ?_; (simp; done)) | refine heap_drew ?_ | refine heap_drewN ?_ | (refine heap_past ?_ ?_ <;> try (simp; done)) | (refine heap_far ?_ ?_ <;> try (simp; done))))))
               | (go_at_call 18; refine (l_toAcc k c _).mono ?_; rintro e w16 ⟨rfl, hb16⟩; have z16 := hb16.size; (try simp at z16); obtain ⟨jh, j0, j1, jf, jz⟩ := own2 (g := w.heap.size) hb16 (by first | omega | (simp; omega) | (simp; done)) (by (first | ((repeat' first | (with_reducible (first | assumption | (refine heap_at ?_; (first | rfl | (simp; done))) | refine heap_drew ?_ | refine heap_drewN ?_ | refine heap_past ?_ ?_ | refine heap_far ?_ ?_)) | (simp; done) | (simp; omega)); done) | (repeat' first | assumption | (refine heap_at ?_; (simp; done)) | refine heap_drew ?_ | refine heap_drewN ?_ | (refine heap_past ?_ ?_ <;> try (simp; done)) | (refine heap_far ?_ ?_ <;> try (simp; done))))))
               | (go_at_call 19; refine (HI.out qs15 _ _ _ HPL15.out (by first | exact HO15.out | exact (HO15.out.below (by first | exact hb16 | (first | ((repeat' first | (with_reducible (first | exact Below.refl _ _ | assumption | refine Below.setCell ?_ ?_ _ | refine Below.alloc ?_ ?_ _ | refine Below.drew ?_ | refine below_drewN ?_ _ | refine Below.trans ?_ (Below.mono (by assumption) ?_))) | omega | (simp; omega) | (simp; done)); done) | (repeat' first | exact Below.refl _ _ | assumption | refine Below.setCell ?_ (by first | omega | (simp; omega) | (simp; done)) _ | refine Below.alloc ?_ (by first | omega | (simp; omega) | (simp; done)) _ | refine Below.drew ?_ | refine below_drewN ?_ _ | refine Below.trans ?_ (Below.mono (by assumption) (by first | omega | (simp; omega) | (simp; done))))))).more (by omega))).mono ?_; rintro e w17 ⟨A17, cap17, rfl, how17, hb17⟩; have z17 := hb17.size; (try simp at z17); have OH17 := Lib.hid how17; clear how17; obtain ⟨mh, m0, m1, mf, mz⟩ := own2 (g := w.heap.size) hb17 (by first | omega | (simp; omega) | (simp; done)) (by (first | ((repeat' first | (with_reducible (first | assumption | (refine heap_at ?_; (first | rfl | (simp; done))) | refine heap_drew ?_ | refine heap_drewN ?_ | refine heap_past ?_ ?_ | refine heap_far ?_ ?_)) | (simp; done) | (simp; omega)); done) | (repeat' first | assumption | (refine heap_at ?_; (simp; done)) | refine heap_drew ?_ | refine heap_drewN ?_ | (refine heap_past ?_ ?_ <;> try (simp; done)) | (refine heap_far ?_ ?_ <;> try (simp; done)))))))
      all_goals
        go_wp2_with fail
        refine (l_eqIntS l2 _ _ _ _ _ hl2 OH17.out.rd ((OW13.out.rd.below (by (first | ((repeat' first | (with_reducible (first | exact Below.refl _ _ | assumption | refine Below.setCell ?_ ?_ _ | refine Below.alloc ?_ ?_ _ | refine Below.drew ?_ | refine below_drewN ?_ _ | refine Below.trans ?_ (Below.mono (by assumption) ?_))) | omega | (simp; omega) | (simp; done)); done) | (repeat' first | exact Below.refl _ _ | assumption | refine Below.setCell ?_ (by first | omega | (simp; omega) | (simp; done)) _ | refine Below.alloc ?_ (by first | omega | (simp; omega) | (simp; done)) _ | refine Below.drew ?_ | refine below_drewN ?_ _ | refine Below.trans ?_ (Below.mono (by assumption) (by first | omega | (simp; omega) | (simp; done))))))).more (by omega))).mono ?_
        rintro e w18 ⟨rfl, hb18⟩
        have z18 := hb18.size
        go_wp2_with fail
        refine (l_heldIntS _ _ _ _ _ (by decide) (by decide) (by omega) (HMK.out.below (by (first | ((repeat' first | (with_reducible (first | exact Below.refl _ _ | assumption | refine Below.setCell ?_ ?_ _ | refine Below.alloc ?_ ?_ _ | refine Below.drew ?_ | refine below_drewN ?_ _ | refine Below.trans ?_ (Below.mono (by assumption) ?_))) | omega | (simp; omega) | (simp; done)); done) | (repeat' first | exact Below.refl _ _ | assumption | refine Below.setCell ?_ (by first | omega | (simp; omega) | (simp; done)) _ | refine Below.alloc ?_ (by first | omega | (simp; omega) | (simp; done)) _ | refine Below.drew ?_ | refine below_drewN ?_ _ | refine Below.trans ?_ (Below.mono (by assumption) (by first | omega | (simp; omega) | (simp; done)))))))).mono ?_
        rintro e _ ⟨he, rfl⟩
        rw [HLG.out] at he
        subst he
        go_wp2_with fail
        go_ret
        refine ⟨rfl, ?_⟩
        (first | ((repeat' first | (with_reducible (first | exact Below.refl _ _ | assumption | refine Below.setCell ?_ ?_ _ | refine Below.alloc ?_ ?_ _ | refine Below.drew ?_ | refine below_drewN ?_ _ | refine Below.trans ?_ (Below.mono (by assumption) ?_))) | omega | (simp; omega) | (simp; done)); done) | (repeat' first | exact Below.refl _ _ | assumption | refine Below.setCell ?_ (by first | omega | (simp; omega) | (simp; done)) _ | refine Below.alloc ?_ (by first | omega | (simp; omega) | (simp; done)) _ | refine Below.drew ?_ | refine below_drewN ?_ _ | refine Below.trans ?_ (Below.mono (by assumption) (by first | omega | (simp; omega) | (simp; done)))))
  · have hs' : (1048576 : Int) < (ps.length : Int) + totP ps := by omega
    go_enter Try.func4, Try.ntmps4
    go_wp2_with fail
    refine (l_szPostingS_no ps A cap 1048576 _ (by omega) (by omega) HM.out HML.out ((HR.out.below (by (first | ((repeat' first | (with_reducible (first | exact Below.refl _ _ | assumption | refine Below.setCell ?_ ?_ _ | refine Below.alloc ?_ ?_ _ | refine Below.drew ?_ | refine below_drewN ?_ _ | refine Below.trans ?_ (Below.mono (by assumption) ?_))) | omega | (simp; omega) | (simp; done)); done) | (repeat' first | exact Below.refl _ _ | assumption | refine Below.setCell ?_ (by first | omega | (simp; omega) | (simp; done)) _ | refine Below.alloc ?_ (by first | omega | (simp; omega) | (simp; done)) _ | refine Below.drew ?_ | refine below_drewN ?_ _ | refine Below.trans ?_ (Below.mono (by assumption) (by first | omega | (simp; omega) | (simp; done))))))).more (by simp)) hs').mono ?_
    rintro e w' ⟨rfl, hb⟩
    go_wp2_with fail
    go_ret
    exact ⟨rfl, by (first | ((repeat' first | (with_reducible (first | exact Below.refl _ _ | assumption | refine Below.setCell ?_ ?_ _ | refine Below.alloc ?_ ?_ _ | refine Below.drew ?_ | refine below_drewN ?_ _ | refine Below.trans ?_ (Below.mono (by assumption) ?_))) | omega | (simp; omega) | (simp; done)); done) | (repeat' first | exact Below.refl _ _ | assumption | refine Below.setCell ?_ (by first | omega | (simp; omega) | (simp; done)) _ | refine Below.alloc ?_ (by first | omega | (simp; omega) | (simp; done)) _ | refine Below.drew ?_ | refine below_drewN ?_ _ | refine Below.trans ?_ (Below.mono (by assumption) (by first | omega | (simp; omega) | (simp; done)))))⟩
theorem FnExactAccPast_own : ownKnob Try.prog.godebug = none := by kernel_rfl
theorem FnExactAccPast_laidOut : laidOutB Try.prog = true := by kernel_rfl
set_option maxRecDepth 100000 in
theorem FnExactAccPast_lifted (os : Os) (started : os.Started) (H : Type) (enc : TypeId × Value → H) :
    ReturnsInHanded {} Try.checked os 4 .any (Rows.fnExactAccPastSpec.pre6 enc Try.prog Try.f4 Rows.fnExactAccPastRow.domain false) (Rows.fnExactAccPastSpec.post enc Try.prog Try.f4 false true false false) := by
  refine returnsInHanded_of_change (C := Try.checked) FnExactAccPast_own started (by kernel_rfl) Try.func4
    (ChangeSpec.witness6 (enc := enc) (C := Try.checked) false ⟨#[], #[.slice none 0 0, .agg #[.int .i64 0, .int .i64 0]], []⟩ 8 (by kernel_rfl) (by kernel_rfl) (by kernel_rfl) (by kernel_rfl)) ?_
  intro W base args ds gs before hval0 hW hcnd _
  have hval : ∀ (j : Nat) t v, Try.f4.params[j]? = some t → args[j]? = some v → Value.okWide Try.prog W .any base t v := hval0
  have hW' := hW
  obtain ⟨p, q, hA0, hV, rfl, hfz, hnd⟩ := hW
  have hA : DataW.TrodAll enc Try.prog W 0 (fun _ => true) true Try.f4.params.toList args.toList ds p := hA0
  rw [Try.params4] at hA hval
  obtain ⟨v0, vs0, d0, ds0, p0, q0, hargs, rfl, rfl, h0, r0⟩ := trodAll_cons hA
  obtain ⟨v1, vs1, d1, ds1, p1, q1, rfl, rfl, rfl, h1, r1⟩ := trodAll_cons r0
  obtain ⟨rfl, rfl, rfl⟩ := trodAll_nil r1
  obtain rfl : args = #[v0, v1] := by cases args; simp_all
  obtain ⟨A0, len0, cap0, rfl⟩ := okWide_slice Try.underlying32 (hval 0 32 v0 rfl rfl)
  obtain ⟨fuel0, hf0⟩ := h0
  obtain ⟨l0, hlen0, hrd0, hml0, hlc0, hcm0⟩ := rdP_of_trod Try.underlying32 Try.underlying94 (by kernel_rfl) (by kernel_rfl) Try.underlying3 Try.underlying92 (by kernel_rfl) (by kernel_rfl) hf0
  subst hlen0
  obtain ⟨cs1, rfl, fl1⟩ := agg_of_trod (n := 4) (ks := [true, true]) Try.underlying34 (by kernel_rfl) (hval 1 34 v1 rfl rfl) h1
  obtain ⟨a1_0, a1_1, rfl⟩ := flat_2 fl1
  refine (l_FnExactAccPast l0 A0 cap0 a1_0 a1_1 W (by omega) hml0 hrd0).mono fun e W' ⟨he, hb⟩ => ⟨_, he, ?_⟩
  exact law_post FnExactAccPast_laidOut (by kernel_rfl) (tb := 4) rfl Try.underlying4 rfl (fun ds' hl => by match ds', hl with | [_, _], _ => rfl) hW' hb

theorem FnExactAccPast_holds : Rows.FnExactAccPastSaid :=
  OpenClaim.holds_of_wide 4 Try.f4 rfl rfl rfl rfl rfl rfl rfl ⟨rfl, rfl, rfl, rfl, rfl⟩ rfl rfl rfl rfl rfl (by kernel_rfl) Try.func4 (by kernel_rfl)
    (of_decide_eq_true (by kernel_rfl)) (by unfold Func.isWrapper; first | (rw [if_pos (by decide +kernel)]; kernel_rfl) | (rw [if_neg (by decide +kernel)]; exact ⟨rfl, rfl⟩))
    (fun os started H enc _ => FnExactAccPast_lifted os started H enc)
#print axioms FnExactAccPast_holds
end Go.Proofs.Ytplchgkppkibnaa

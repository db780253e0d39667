/- Afford: the walk of the reference. -/
import Derived.Test.YtombjkokncepnaaRows
import Derived.Test.YtombjkokncepnaaAffordI
import Derived.Test.YtombjkokncepnaaBase2
namespace Go.Proofs.Ytombjkokncepnaa
open Go.RowKit

theorem s_MulDivB (a b c : Int) (w : World) :
    Calls Try.prog 42 #[.int .i64 a, .int .i64 b, .int .i64 c] w fun e w' => e = .returned (.tuple #[.int .i64 (mulQ a b c), .bool (mulOk a b c)]) ∧ Below w.heap.size w w' :=
  (s_MulDiv a b c w).mono fun _ _ ⟨h1, h2⟩ => ⟨h1, h2 ▸ Below.refl _ _⟩
set_option maxRecDepth 100000 in
set_option maxHeartbeats 4000000 in
theorem s_Afford (c s at_ : Int) (l : List Coin) (ms : List Move) (A A2 : Option Addr) (cap cap2 : Nat) (w : World) (hl : l.length ≤ 1048576) (hm : ms.length ≤ 1048576) (hr : Rd w w.heap.size 2 A (l.map Coin.cells)) (hr2 : Rd w w.heap.size 4 A2 (ms.map Move.cells)) :
    Calls Try.prog 10 #[.agg #[.int .i64 c, .int .i64 s, .slice A l.length cap], .int .i64 at_, .slice A2 ms.length cap2] w fun e w' => ∃ A cap, e = .returned (.slice A (affordR c s at_ l ms).length cap) ∧ Ow w' w.heap.size 31 4 (.slice A (affordR c s at_ l ms).length cap) ((affordR c s at_ l ms).map Move.cells) ∧ Below w.heap.size w w' := by
  have HR := Lib.hid hr
  have HR2 := Lib.hid hr2
  clear hr hr2
  obtain ⟨i0, hi, hz0, hz1, hz2⟩ := info_parts info_move
  have HI := Lib.hid hi
  have HZ0 := Lib.hid hz0
  have HZ1 := Lib.hid hz1
  have HZ2 := Lib.hid hz2
  clear hi hz0 hz1 hz2
  have HE0 := Lib.hid (Ow.empty_ (w := w.alloc (.cells #[.int .i64 c, .int .i64 s, .slice A l.length cap] 25)) (g := w.heap.size + 1) (e := 31) (size := 4) (B := w.heap.size + 1) (by simp) (Nat.le_refl _))
  cases hok : purseOk c s l
  · have H1 := Lib.hid (show affordR c s at_ l ms = [] by simp [affordR, hok])
    have HOK := Lib.hid hok
    clear hok
    go_enter Try.func10, Try.ntmps10
    go_wp2_with fail
    refine (s_PurseOk c s l _ _ _ hl ((HR.out.below (by (first | ((repeat' first | (with_reducible (first | exact Below.refl _ _ | assumption | refine Below.setCell ?_ ?_ _ | refine Below.alloc ?_ ?_ _ | refine Below.drew ?_ | refine below_drewN ?_ _ | refine Below.trans ?_ (Below.mono (by assumption) ?_))) | omega | (simp; omega) | (simp; done)); done) | (repeat' first | exact Below.refl _ _ | assumption | refine Below.setCell ?_ (by first | omega | (simp; omega) | (simp; done)) _ | refine Below.alloc ?_ (by first | omega | (simp; omega) | (simp; done)) _ | refine Below.drew ?_ | refine below_drewN ?_ _ | refine Below.trans ?_ (Below.mono (by assumption) (by first | omega | (simp; omega) | (simp; done))))))).more (by first | (simp; done) | (simp; omega)))).mono ?_
    rintro e w1 ⟨rfl, hb1⟩
    have z1 := hb1.size
    try simp at z1
    rw [HOK.out]
    go_wp2_with fail
    go_ret
    rw [H1.out]
    exact ⟨_, _, rfl, (HE0.out.below hb1).more (by omega), by (first | ((repeat' first | (with_reducible (first | exact Below.refl _ _ | assumption | refine Below.setCell ?_ ?_ _ | refine Below.alloc ?_ ?_ _ | refine Below.drew ?_ | refine below_drewN ?_ _ | refine Below.trans ?_ (Below.mono (by assumption) ?_))) | omega | (simp; omega) | (simp; done)); done) | (repeat' first | exact Below.refl _ _ | assumption | refine Below.setCell ?_ (by first | omega | (simp; omega) | (simp; done)) _ | refine Below.alloc ?_ (by first | omega | (simp; omega) | (simp; done)) _ | refine Below.drew ?_ | refine below_drewN ?_ _ | refine Below.trans ?_ (Below.mono (by assumption) (by first | omega | (simp; omega) | (simp; done)))))⟩
  · have H1 := Lib.hid (show affordR c s at_ l ms = (affS c s at_ l ms).2 by simp [affordR, hok])
    have h40 := purseOk_le hok
    have HOK := Lib.hid hok
    clear hok
    go_enter Try.func10, Try.ntmps10
    go_wp2_with fail
    refine (s_PurseOk c s l _ _ _ hl ((HR.out.below (by (first | ((repeat' first | (with_reducible (first | exact Below.refl _ _ | assumption | refine Below.setCell ?_ ?_ _ | refine Below.alloc ?_ ?_ _ | refine Below.drew ?_ | refine below_drewN ?_ _ | refine Below.trans ?_ (Below.mono (by assumption) ?_))) | omega | (simp; omega) | (simp; done)); done) | (repeat' first | exact Below.refl _ _ | assumption | refine Below.setCell ?_ (by first | omega | (simp; omega) | (simp; done)) _ | refine Below.alloc ?_ (by first | omega | (simp; omega) | (simp; done)) _ | refine Below.drew ?_ | refine below_drewN ?_ _ | refine Below.trans ?_ (Below.mono (by assumption) (by first | omega | (simp; omega) | (simp; done))))))).more (by first | (simp; done) | (simp; omega)))).mono ?_
    rintro e w1 ⟨rfl, hb1⟩
    have z1 := hb1.size
    try simp at z1
    rw [HOK.out]
    obtain ⟨eh, e0, e1, e2, ef, ez⟩ := own3 (g := w.heap.size) hb1 (by first | omega | (simp; omega) | (simp; done)) (by (first | ((repeat' first | (with_reducible (first | assumption | (refine heap_at ?_; (first | rfl | (simp; done))) | refine heap_drew ?_ | refine heap_drewN ?_ | refine heap_past ?_ ?_ | refine heap_far ?_ ?_)) | (simp; done) | (simp; omega)); done) | (repeat' first | assumption | (refine heap_at ?_; (simp; done)) | refine heap_drew ?_ | refine heap_drewN ?_ | (refine heap_past ?_ ?_ <;> try (simp; done)) | (refine heap_far ?_ ?_ <;> try (simp; done)))))
    have EH := Lib.hid eh
    have hA1 : Below w.heap.size w w1 := by (first | ((repeat' first | (with_reducible (first | exact Below.refl _ _ | assumption | refine Below.setCell ?_ ?_ _ | refine Below.alloc ?_ ?_ _ | refine Below.drew ?_ | refine below_drewN ?_ _ | refine Below.trans ?_ (Below.mono (by assumption) ?_))) | omega | (simp; omega) | (simp; done)); done) | (repeat' first | exact Below.refl _ _ | assumption | refine Below.setCell ?_ (by first | omega | (simp; omega) | (simp; done)) _ | refine Below.alloc ?_ (by first | omega | (simp; omega) | (simp; done)) _ | refine Below.drew ?_ | refine below_drewN ?_ _ | refine Below.trans ?_ (Below.mono (by assumption) (by first | omega | (simp; omega) | (simp; done)))))
    have HC0 := Lib.hid (show Cn w1 w.heap.size A l from .inl ((HR.out.below (by (first | ((repeat' first | (with_reducible (first | exact Below.refl _ _ | assumption | refine Below.setCell ?_ ?_ _ | refine Below.alloc ?_ ?_ _ | refine Below.drew ?_ | refine below_drewN ?_ _ | refine Below.trans ?_ (Below.mono (by assumption) ?_))) | omega | (simp; omega) | (simp; done)); done) | (repeat' first | exact Below.refl _ _ | assumption | refine Below.setCell ?_ (by first | omega | (simp; omega) | (simp; done)) _ | refine Below.alloc ?_ (by first | omega | (simp; omega) | (simp; done)) _ | refine Below.drew ?_ | refine below_drewN ?_ _ | refine Below.trans ?_ (Below.mono (by assumption) (by first | omega | (simp; omega) | (simp; done)))))))))
    have HE1 := Lib.hid (HE0.out.below hb1)
    clear eh hb1
    go_wp2_with fail
    clear e0 e1 e2 ef ez
    go_loopw [7, 21] (fun vk i wr => ∃ (k : Nat) (l2 : List Coin) (out : List Move) (B AC : Option Addr) (cp cc : Nat), k ≤ ms.length ∧ i = .int .i64 k ∧ vk = .slice B out.length cp ∧ Hid (affS c s at_ l (ms.take k) = (l2, out)) ∧ l2.length ≤ 40 ∧ out.length ≤ k ∧ Ow wr (w.heap.size + 1) 31 4 (.slice B out.length cp) (out.map Move.cells) ∧ Cn wr w.heap.size AC l2 ∧ wr.heap[w.heap.size]? = some (.cells #[.int .i64 c, .int .i64 s, .slice AC l2.length cc] 25 (0, 0)) ∧ Below w.heap.size w wr) (fun _ i _ => ms.length - (intOf i).toNat)
    case atStart => exact ⟨0, l, [], some ⟨w.heap.size + 1, 0, none⟩, A, 0, cap, Nat.zero_le _, rfl, rfl, Lib.hid rfl, h40, Nat.zero_le _, HE1.out, HC0.out, EH.out, hA1⟩
    case round =>
      clear hA1
      obtain ⟨k, l2, out, B, AC, cp, cc, hk, rfl, rfl, HST, hl2, hout, how, hcn, hbox, hbw⟩ := hrel
      have hbz := hbw.size
      obtain ⟨eh, e0, e1, e2, ef, ez⟩ := own3 (Below.refl wr.heap.size wr) (Array.getElem?_eq_some_iff.1 hbox).1 hbox
      have EH := Lib.hid eh
      have CN := Lib.hid hcn
      have HW := Lib.hid how
      clear eh hbox hcn how
      by_cases hlt : k < ms.length
      · obtain ⟨b, off, rfl, hbB, c0, c1, c2, c3⟩ := Move.rd (HR2.out.below hbw) hlt
        have HS := Lib.hid (affS_succ c s at_ l ms hlt)
        go_wp2_with fail
        refine (s_MulDivB ms[k].Amt ms[k].Ppm 1000000 _).mono ?_
        rintro e w2 ⟨rfl, hb2⟩
        have z2 := hb2.size
        try simp at z2
        obtain ⟨fh, f0, f1, f2, ff, fz⟩ := own3 (g := w.heap.size) hb2 (by first | omega | (simp; omega) | (simp; done)) (by (first | ((repeat' first | (with_reducible (first | assumption | (refine heap_at ?_; (first | rfl | (simp; done))) | refine heap_drew ?_ | refine heap_drewN ?_ | refine heap_past ?_ ?_ | refine heap_far ?_ ?_)) | (simp; done) | (simp; omega)); done) | (repeat' first | assumption | (refine heap_at ?_; (simp; done)) | refine heap_drew ?_ | refine heap_drewN ?_ | (refine heap_past ?_ ?_ <;> try (simp; done)) | (refine heap_far ?_ ?_ <;> try (simp; done)))))
        obtain ⟨gh, g0, g1, g2, g3, gf, gz⟩ := own4 (g := wr.heap.size) hb2 (by first | omega | (simp; omega) | (simp; done)) (by (first | ((repeat' first | (with_reducible (first | assumption | (refine heap_at ?_; (first | rfl | (simp; done))) | refine heap_drew ?_ | refine heap_drewN ?_ | refine heap_past ?_ ?_ | refine heap_far ?_ ?_)) | (simp; done) | (simp; omega)); done) | (repeat' first | assumption | (refine heap_at ?_; (simp; done)) | refine heap_drew ?_ | refine heap_drewN ?_ | (refine heap_past ?_ ?_ <;> try (simp; done)) | (refine heap_far ?_ ?_ <;> try (simp; done)))))
        have CN2 := Lib.hid ((CN.out.alloc (by omega) _).below (by simp; omega) hb2)
        have HW2 := Lib.hid ((HW.out.alloc _).below hb2)
        have hbw2 : Below w.heap.size w w2 := by (first | ((repeat' first | (with_reducible (first | exact Below.refl _ _ | assumption | refine Below.setCell ?_ ?_ _ | refine Below.alloc ?_ ?_ _ | refine Below.drew ?_ | refine below_drewN ?_ _ | refine Below.trans ?_ (Below.mono (by assumption) ?_))) | omega | (simp; omega) | (simp; done)); done) | (repeat' first | exact Below.refl _ _ | assumption | refine Below.setCell ?_ (by first | omega | (simp; omega) | (simp; done)) _ | refine Below.alloc ?_ (by first | omega | (simp; omega) | (simp; done)) _ | refine Below.drew ?_ | refine below_drewN ?_ _ | refine Below.trans ?_ (Below.mono (by assumption) (by first | omega | (simp; omega) | (simp; done)))))
        have FH := Lib.hid fh
        have GH := Lib.hid gh
        have hwr : w.heap.size < wr.heap.size := ez
        clear hb2 e0 e1 e2 ef ez fh gh CN HW EH
        have HQ0 := Lib.hid (mulQ_nonneg ms[k].Amt ms[k].Ppm 1000000)
        have HNC0 := Lib.hid (show moveCost ms[k] = max (mulQ ms[k].Amt ms[k].Ppm 1000000) 1 from rfl)
        obtain ⟨Q, hQ⟩ : ∃ Q, mulQ ms[k].Amt ms[k].Ppm 1000000 = Q := ⟨_, rfl⟩
        rw [hQ] at HQ0 HNC0 ⊢
        clear hQ
        cases hq : (Q == 0)
        · have HNC := Lib.hid (show moveCost ms[k] = Q by rw [HNC0.out]; have := HQ0.out; have : Q ≠ 0 := by simpa using hq
                                                          omega)
          go_wp2_with fail
          by_cases hc : spendCode c s at_ Q l2 = 0
          · have HSM := Lib.hid (spend_small hc)
            have HK := Lib.hid (show affS c s at_ l (ms.take (k + 1)) = (spendKeep s at_ l2 ++ [⟨at_, Q⟩], out ++ [ms[k]]) by rw [HS.out, HST.out, affF_yes (by rw [HNC.out]; exact hc), HNC.out])
            refine (s_Spend c s at_ Q l2 AC cc _ (by omega) (CN2.out.rd (by omega))).mono ?_
            rintro e w3 hpost
            obtain ⟨A3, cap3, rfl, how3, hb3⟩ := spend_yes hc hpost
            clear hpost
            have z3 := hb3.size
            have HW3 := Lib.hid (HW2.out.below hb3)
            have HC3 := Lib.hid (how3.more (B' := w.heap.size + 1) (by omega))
            have hbw3 : Below w.heap.size w w3 := by (first | ((repeat' first | (with_reducible (first | exact Below.refl _ _ | assumption | refine Below.setCell ?_ ?_ _ | refine Below.alloc ?_ ?_ _ | refine Below.drew ?_ | refine below_drewN ?_ _ | refine Below.trans ?_ (Below.mono (by assumption) ?_))) | omega | (simp; omega) | (simp; done)); done) | (repeat' first | exact Below.refl _ _ | assumption | refine Below.setCell ?_ (by first | omega | (simp; omega) | (simp; done)) _ | refine Below.alloc ?_ (by first | omega | (simp; omega) | (simp; done)) _ | refine Below.drew ?_ | refine below_drewN ?_ _ | refine Below.trans ?_ (Below.mono (by assumption) (by first | omega | (simp; omega) | (simp; done)))))
            obtain ⟨ph, p0, p1, p2, pf, pz⟩ := own3 hb3 fz FH.out
            obtain ⟨rh, r0, r1, r2, r3, rf, rz⟩ := own4 hb3 gz GH.out
            have PH := Lib.hid ph
            have RH := Lib.hid rh
            obtain ⟨LC, hLC⟩ : ∃ L, spendKeep s at_ l2 ++ [⟨at_, Q⟩] = L := ⟨_, rfl⟩
            have HLC := Lib.hid (show LC.length ≤ 40 by rw [← hLC]; simpa using HSM.out)
            rw [hLC] at HC3 HK ⊢
            clear hLC how3 hb3 ph rh FH GH f0 f1 f2 ff g0 g1 g2 g3 gf HW2 CN2 hc
            have hne : wr.heap.size ≠ w.heap.size := by omega
            have wh : (((w3.setCell ⟨w.heap.size, 0, none⟩ (.int .i64 c)).setCell ⟨w.heap.size, 1, none⟩ (.int .i64 s)).setCell ⟨w.heap.size, 2, none⟩ (.slice A3 LC.length cap3)).heap[wr.heap.size]? = some (.cells #[.int .i64 ms[k].From, .int .i64 ms[k].To, .int .i64 ms[k].Amt, .int .i64 ms[k].Ppm] 31 (0, 0)) := heap_far hne (heap_far hne (heap_far hne RH.out))
            have ph : (((w3.setCell ⟨w.heap.size, 0, none⟩ (.int .i64 c)).setCell ⟨w.heap.size, 1, none⟩ (.int .i64 s)).setCell ⟨w.heap.size, 2, none⟩ (.slice A3 LC.length cap3)).heap[w.heap.size]? = some (.cells #[.int .i64 c, .int .i64 s, .slice A3 LC.length cap3] 25 (0, 0)) := heap_set (heap_set (heap_set PH.out))
            have q0 := blk_cell wh 0
            have q1 := blk_cell wh 1
            have q2 := blk_cell wh 2
            have q3 := blk_cell wh 3
            simp only [List.getElem?_toArray, List.getElem?_cons_zero, List.getElem?_cons_succ] at q0 q1 q2 q3
            have PH3 := Lib.hid ph
            have HW4 := Lib.hid (((HW3.out.far (a := ⟨w.heap.size, 0, none⟩) (by simp) (.int .i64 c)).far (a := ⟨w.heap.size, 1, none⟩) (by simp) (.int .i64 s)).far (a := ⟨w.heap.size, 2, none⟩) (by simp) (.slice A3 LC.length cap3))
            have HC4 := Lib.hid (((HC3.out.far (a := ⟨w.heap.size, 0, none⟩) (by simp) (.int .i64 c)).far (a := ⟨w.heap.size, 1, none⟩) (by simp) (.int .i64 s)).far (a := ⟨w.heap.size, 2, none⟩) (by simp) (.slice A3 LC.length cap3))
            have hbw4 : Below w.heap.size w (((w3.setCell ⟨w.heap.size, 0, none⟩ (.int .i64 c)).setCell ⟨w.heap.size, 1, none⟩ (.int .i64 s)).setCell ⟨w.heap.size, 2, none⟩ (.slice A3 LC.length cap3)) := by (first | ((repeat' first | (with_reducible (first | exact Below.refl _ _ | assumption | refine Below.setCell ?_ ?_ _ | refine Below.alloc ?_ ?_ _ | refine Below.drew ?_ | refine below_drewN ?_ _ | refine Below.trans ?_ (Below.mono (by assumption) ?_))) | omega | (simp; omega) | (simp; done)); done) | (repeat' first | exact Below.refl _ _ | assumption | refine Below.setCell ?_ (by first | omega | (simp; omega) | (simp; done)) _ | refine Below.alloc ?_ (by first | omega | (simp; omega) | (simp; done)) _ | refine Below.drew ?_ | refine below_drewN ?_ _ | refine Below.trans ?_ (Below.mono (by assumption) (by first | omega | (simp; omega) | (simp; done)))))
            have zs : (((w3.setCell ⟨w.heap.size, 0, none⟩ (.int .i64 c)).setCell ⟨w.heap.size, 1, none⟩ (.int .i64 s)).setCell ⟨w.heap.size, 2, none⟩ (.slice A3 LC.length cap3)).heap.size = w3.heap.size := by simp
            obtain ⟨W4, hW4⟩ : ∃ W, (((w3.setCell ⟨w.heap.size, 0, none⟩ (.int .i64 c)).setCell ⟨w.heap.size, 1, none⟩ (.int .i64 s)).setCell ⟨w.heap.size, 2, none⟩ (.slice A3 LC.length cap3)) = W := ⟨_, rfl⟩
            have ZS := Lib.hid zs
            clear zs wh ph
            have OB := Lib.hid HW4.out.block
            have KE := Lib.hid (fun o1 o2 (w6 : World) (hgr : (((((w3.setCell ⟨w.heap.size, 0, none⟩ (.int .i64 c)).setCell ⟨w.heap.size, 1, none⟩ (.int .i64 s)).setCell ⟨w.heap.size, 2, none⟩ (.slice A3 LC.length cap3)).alloc o1).alloc o2).grownBy w6 (Value.slice B out.length cp).ownBlock) => heap_grown hgr (fun e => by have := (OB.out _ e.symm).1; omega) (heap_past (by simp; omega) (heap_past (by simp; omega) PH3.out)))
            have KB := Lib.hid (fun o1 o2 (w6 : World) (hgr : (((((w3.setCell ⟨w.heap.size, 0, none⟩ (.int .i64 c)).setCell ⟨w.heap.size, 1, none⟩ (.int .i64 s)).setCell ⟨w.heap.size, 2, none⟩ (.slice A3 LC.length cap3)).alloc o1).alloc o2).grownBy w6 (Value.slice B out.length cp).ownBlock) => ((hbw4.alloc (by simp; omega) o1).alloc (by simp; omega) o2).grown hgr (by simp; omega) (fun k e => by have := (OB.out k e).1; omega))
            have KC := Lib.hid (fun o1 o2 (w6 : World) (hgr : (((((w3.setCell ⟨w.heap.size, 0, none⟩ (.int .i64 c)).setCell ⟨w.heap.size, 1, none⟩ (.int .i64 s)).setCell ⟨w.heap.size, 2, none⟩ (.slice A3 LC.length cap3)).alloc o1).alloc o2).grownBy w6 (Value.slice B out.length cp).ownBlock) => Cn.grown (B := w.heap.size) (A := A3) (l := LC) (.inr ⟨cap3, (HC4.out.alloc o1).alloc o2⟩) ((HW4.out.alloc o1).alloc o2) (by simp; omega) (Nat.le_succ _) (by decide) hgr)
            clear hW4 W4
            go_wp2_with (at_builtin; refine wpList_app1 rfl _ _ _ rfl (w.heap.size + 1) 31 i0 _ 4 32 Try.underlying26 HI.out HZ0.out HZ1.out HZ2.out rfl (by decide) (.slice B out.length cp) (out.map Move.cells) rfl ((HW4.out.alloc _).alloc _) (w3.heap.size + 1) 1 [.int .i64 ms[k].From, .int .i64 ms[k].To, .int .i64 ms[k].Amt, .int .i64 ms[k].Ppm] 31 rfl (heap_at (by simp)) rfl (by simp [Value.oneCell']) (by rw [List.length_map]; omega) (by decide) (by simp; omega) ?_; intro g cap' w6 how6 hgr6 hat6 hlt6; rw [List.length_map] at how6; rw [List.length_map]; have XH := Lib.hid (KE.out _ _ _ hgr6); have hb6 := KB.out _ _ _ hgr6; have XC := Lib.hid (KC.out _ _ _ hgr6); have O6 := Lib.hid how6; clear how6 hgr6 hat6)
            go_roundw
            case rel =>
              refine ⟨k + 1, LC, out ++ [ms[k]], some ⟨g, 0, none⟩, A3, cap', cap3, by omega, by go_num, by rw [List.length_append]; rfl, HK, HLC.out, by rw [List.length_append]; simp; omega, ?_, XC.out, XH.out, hb6⟩
              rw [List.map_append, List.length_append]
              exact O6.out
            case measure => simp [intOf]; omega
          · have HK := Lib.hid (show affS c s at_ l (ms.take (k + 1)) = (l2, out) by rw [HS.out, HST.out, affF_no (by rw [HNC.out]; exact hc)])
            refine (s_Spend c s at_ Q l2 AC cc _ (by omega) (CN2.out.rd (by omega))).mono ?_
            rintro e w3 hpost
            obtain ⟨A3, cap3, rfl, how3, hb3⟩ := spend_no hc hpost
            clear hpost how3
            have hcz : (spendCode c s at_ Q l2 == 0) = false := by simpa using hc
            obtain ⟨CD, hCD⟩ : ∃ C, spendCode c s at_ Q l2 = C := ⟨_, rfl⟩
            rw [hCD] at hcz ⊢
            clear hCD hc
            have z3 := hb3.size
            have HW3 := Lib.hid (HW2.out.below hb3)
            have CN3 := Lib.hid (CN2.out.below (by omega) hb3)
            have hbw3 : Below w.heap.size w w3 := by (first | ((repeat' first | (with_reducible (first | exact Below.refl _ _ | assumption | refine Below.setCell ?_ ?_ _ | refine Below.alloc ?_ ?_ _ | refine Below.drew ?_ | refine below_drewN ?_ _ | refine Below.trans ?_ (Below.mono (by assumption) ?_))) | omega | (simp; omega) | (simp; done)); done) | (repeat' first | exact Below.refl _ _ | assumption | refine Below.setCell ?_ (by first | omega | (simp; omega) | (simp; done)) _ | refine Below.alloc ?_ (by first | omega | (simp; omega) | (simp; done)) _ | refine Below.drew ?_ | refine below_drewN ?_ _ | refine Below.trans ?_ (Below.mono (by assumption) (by first | omega | (simp; omega) | (simp; done)))))
            obtain ⟨ph, p0, p1, p2, pf, pz⟩ := own3 hb3 fz FH.out
            have PH := Lib.hid ph
            clear hb3 ph FH GH f0 f1 f2 ff g0 g1 g2 g3 gf HW2 CN2
            go_wp2_with fail
            go_roundw
            case rel => exact ⟨k + 1, l2, out, B, AC, cp, cc, by omega, by go_num, rfl, HK, hl2, by omega, HW3.out.alloc _, CN3.out.alloc (by omega) _, heap_past pz PH.out, by (first | ((repeat' first | (with_reducible (first | exact Below.refl _ _ | assumption | refine Below.setCell ?_ ?_ _ | refine Below.alloc ?_ ?_ _ | refine Below.drew ?_ | refine below_drewN ?_ _ | refine Below.trans ?_ (Below.mono (by assumption) ?_))) | omega | (simp; omega) | (simp; done)); done) | (repeat' first | exact Below.refl _ _ | assumption | refine Below.setCell ?_ (by first | omega | (simp; omega) | (simp; done)) _ | refine Below.alloc ?_ (by first | omega | (simp; omega) | (simp; done)) _ | refine Below.drew ?_ | refine below_drewN ?_ _ | refine Below.trans ?_ (Below.mono (by assumption) (by first | omega | (simp; omega) | (simp; done)))))⟩
            case measure => simp [intOf]; omega
        · have HNC := Lib.hid (show moveCost ms[k] = 1 by rw [HNC0.out]; have : Q = 0 := by simpa using hq
                                                          omega)
          go_wp2_with fail
          by_cases hc : spendCode c s at_ 1 l2 = 0
          · have HSM := Lib.hid (spend_small hc)
            have HK := Lib.hid (show affS c s at_ l (ms.take (k + 1)) = (spendKeep s at_ l2 ++ [⟨at_, 1⟩], out ++ [ms[k]]) by rw [HS.out, HST.out, affF_yes (by rw [HNC.out]; exact hc), HNC.out])
            refine (s_Spend c s at_ 1 l2 AC cc _ (by omega) (CN2.out.rd (by omega))).mono ?_
            rintro e w3 hpost
            obtain ⟨A3, cap3, rfl, how3, hb3⟩ := spend_yes hc hpost
            clear hpost
            have z3 := hb3.size
            have HW3 := Lib.hid (HW2.out.below hb3)
            have HC3 := Lib.hid (how3.more (B' := w.heap.size + 1) (by omega))
            have hbw3 : Below w.heap.size w w3 := by (first | ((repeat' first | (with_reducible (first | exact Below.refl _ _ | assumption | refine Below.setCell ?_ ?_ _ | refine Below.alloc ?_ ?_ _ | refine Below.drew ?_ | refine below_drewN ?_ _ | refine Below.trans ?_ (Below.mono (by assumption) ?_))) | omega | (simp; omega) | (simp; done)); done) | (repeat' first | exact Below.refl _ _ | assumption | refine Below.setCell ?_ (by first | omega | (simp; omega) | (simp; done)) _ | refine Below.alloc ?_ (by first | omega | (simp; omega) | (simp; done)) _ | refine Below.drew ?_ | refine below_drewN ?_ _ | refine Below.trans ?_ (Below.mono (by assumption) (by first | omega | (simp; omega) | (simp; done)))))
            obtain ⟨ph, p0, p1, p2, pf, pz⟩ := own3 hb3 fz FH.out
            obtain ⟨rh, r0, r1, r2, r3, rf, rz⟩ := own4 hb3 gz GH.out
            have PH := Lib.hid ph
            have RH := Lib.hid rh
            obtain ⟨LC, hLC⟩ : ∃ L, spendKeep s at_ l2 ++ [⟨at_, 1⟩] = L := ⟨_, rfl⟩
            have HLC := Lib.hid (show LC.length ≤ 40 by rw [← hLC]; simpa using HSM.out)
            rw [hLC] at HC3 HK ⊢
            clear hLC how3 hb3 ph rh FH GH f0 f1 f2 ff g0 g1 g2 g3 gf HW2 CN2 hc
            have hne : wr.heap.size ≠ w.heap.size := by omega
            have wh : (((w3.setCell ⟨w.heap.size, 0, none⟩ (.int .i64 c)).setCell ⟨w.heap.size, 1, none⟩ (.int .i64 s)).setCell ⟨w.heap.size, 2, none⟩ (.slice A3 LC.length cap3)).heap[wr.heap.size]? = some (.cells #[.int .i64 ms[k].From, .int .i64 ms[k].To, .int .i64 ms[k].Amt, .int .i64 ms[k].Ppm] 31 (0, 0)) := heap_far hne (heap_far hne (heap_far hne RH.out))
            have ph : (((w3.setCell ⟨w.heap.size, 0, none⟩ (.int .i64 c)).setCell ⟨w.heap.size, 1, none⟩ (.int .i64 s)).setCell ⟨w.heap.size, 2, none⟩ (.slice A3 LC.length cap3)).heap[w.heap.size]? = some (.cells #[.int .i64 c, .int .i64 s, .slice A3 LC.length cap3] 25 (0, 0)) := heap_set (heap_set (heap_set PH.out))
            have q0 := blk_cell wh 0
            have q1 := blk_cell wh 1
            have q2 := blk_cell wh 2
            have q3 := blk_cell wh 3
            simp only [List.getElem?_toArray, List.getElem?_cons_zero, List.getElem?_cons_succ] at q0 q1 q2 q3
            have PH3 := Lib.hid ph
            have HW4 := Lib.hid (((HW3.out.far (a := ⟨w.heap.size, 0, none⟩) (by simp) (.int .i64 c)).far (a := ⟨w.heap.size, 1, none⟩) (by simp) (.int .i64 s)).far (a := ⟨w.heap.size, 2, none⟩) (by simp) (.slice A3 LC.length cap3))
            have HC4 := Lib.hid (((HC3.out.far (a := ⟨w.heap.size, 0, none⟩) (by simp) (.int .i64 c)).far (a := ⟨w.heap.size, 1, none⟩) (by simp) (.int .i64 s)).far (a := ⟨w.heap.size, 2, none⟩) (by simp) (.slice A3 LC.length cap3))
            have hbw4 : Below w.heap.size w (((w3.setCell ⟨w.heap.size, 0, none⟩ (.int .i64 c)).setCell ⟨w.heap.size, 1, none⟩ (.int .i64 s)).setCell ⟨w.heap.size, 2, none⟩ (.slice A3 LC.length cap3)) := by (first | ((repeat' first | (with_reducible (first | exact Below.refl _ _ | assumption | refine Below.setCell ?_ ?_ _ | refine Below.alloc ?_ ?_ _ | refine Below.drew ?_ | refine below_drewN ?_ _ | refine Below.trans ?_ (Below.mono (by assumption) ?_))) | omega | (simp; omega) | (simp; done)); done) | (repeat' first | exact Below.refl _ _ | assumption | refine Below.setCell ?_ (by first | omega | (simp; omega) | (simp; done)) _ | refine Below.alloc ?_ (by first | omega | (simp; omega) | (simp; done)) _ | refine Below.drew ?_ | refine below_drewN ?_ _ | refine Below.trans ?_ (Below.mono (by assumption) (by first | omega | (simp; omega) | (simp; done)))))
            have zs : (((w3.setCell ⟨w.heap.size, 0, none⟩ (.int .i64 c)).setCell ⟨w.heap.size, 1, none⟩ (.int .i64 s)).setCell ⟨w.heap.size, 2, none⟩ (.slice A3 LC.length cap3)).heap.size = w3.heap.size := by simp
            obtain ⟨W4, hW4⟩ : ∃ W, (((w3.setCell ⟨w.heap.size, 0, none⟩ (.int .i64 c)).setCell ⟨w.heap.size, 1, none⟩ (.int .i64 s)).setCell ⟨w.heap.size, 2, none⟩ (.slice A3 LC.length cap3)) = W := ⟨_, rfl⟩
            have ZS := Lib.hid zs
            clear zs wh ph
            have OB := Lib.hid HW4.out.block
            have KE := Lib.hid (fun o1 o2 (w6 : World) (hgr : (((((w3.setCell ⟨w.heap.size, 0, none⟩ (.int .i64 c)).setCell ⟨w.heap.size, 1, none⟩ (.int .i64 s)).setCell ⟨w.heap.size, 2, none⟩ (.slice A3 LC.length cap3)).alloc o1).alloc o2).grownBy w6 (Value.slice B out.length cp).ownBlock) => heap_grown hgr (fun e => by have := (OB.out _ e.symm).1; omega) (heap_past (by simp; omega) (heap_past (by simp; omega) PH3.out)))
            have KB := Lib.hid (fun o1 o2 (w6 : World) (hgr : (((((w3.setCell ⟨w.heap.size, 0, none⟩ (.int .i64 c)).setCell ⟨w.heap.size, 1, none⟩ (.int .i64 s)).setCell ⟨w.heap.size, 2, none⟩ (.slice A3 LC.length cap3)).alloc o1).alloc o2).grownBy w6 (Value.slice B out.length cp).ownBlock) => ((hbw4.alloc (by simp; omega) o1).alloc (by simp; omega) o2).grown hgr (by simp; omega) (fun k e => by have := (OB.out k e).1; omega))
            have KC := Lib.hid (fun o1 o2 (w6 : World) (hgr : (((((w3.setCell ⟨w.heap.size, 0, none⟩ (.int .i64 c)).setCell ⟨w.heap.size, 1, none⟩ (.int .i64 s)).setCell ⟨w.heap.size, 2, none⟩ (.slice A3 LC.length cap3)).alloc o1).alloc o2).grownBy w6 (Value.slice B out.length cp).ownBlock) => Cn.grown (B := w.heap.size) (A := A3) (l := LC) (.inr ⟨cap3, (HC4.out.alloc o1).alloc o2⟩) ((HW4.out.alloc o1).alloc o2) (by simp; omega) (Nat.le_succ _) (by decide) hgr)
            clear hW4 W4
            go_wp2_with (at_builtin; refine wpList_app1 rfl _ _ _ rfl (w.heap.size + 1) 31 i0 _ 4 32 Try.underlying26 HI.out HZ0.out HZ1.out HZ2.out rfl (by decide) (.slice B out.length cp) (out.map Move.cells) rfl ((HW4.out.alloc _).alloc _) (w3.heap.size + 1) 1 [.int .i64 ms[k].From, .int .i64 ms[k].To, .int .i64 ms[k].Amt, .int .i64 ms[k].Ppm] 31 rfl (heap_at (by simp)) rfl (by simp [Value.oneCell']) (by rw [List.length_map]; omega) (by decide) (by simp; omega) ?_; intro g cap' w6 how6 hgr6 hat6 hlt6; rw [List.length_map] at how6; rw [List.length_map]; have XH := Lib.hid (KE.out _ _ _ hgr6); have hb6 := KB.out _ _ _ hgr6; have XC := Lib.hid (KC.out _ _ _ hgr6); have O6 := Lib.hid how6; clear how6 hgr6 hat6)
            go_roundw
            case rel =>
              refine ⟨k + 1, LC, out ++ [ms[k]], some ⟨g, 0, none⟩, A3, cap', cap3, by omega, by go_num, by rw [List.length_append]; rfl, HK, HLC.out, by rw [List.length_append]; simp; omega, ?_, XC.out, XH.out, hb6⟩
              rw [List.map_append, List.length_append]
              exact O6.out
            case measure => simp [intOf]; omega
          · have HK := Lib.hid (show affS c s at_ l (ms.take (k + 1)) = (l2, out) by rw [HS.out, HST.out, affF_no (by rw [HNC.out]; exact hc)])
            refine (s_Spend c s at_ 1 l2 AC cc _ (by omega) (CN2.out.rd (by omega))).mono ?_
            rintro e w3 hpost
            obtain ⟨A3, cap3, rfl, how3, hb3⟩ := spend_no hc hpost
            clear hpost how3
            have hcz : (spendCode c s at_ 1 l2 == 0) = false := by simpa using hc
            obtain ⟨CD, hCD⟩ : ∃ C, spendCode c s at_ 1 l2 = C := ⟨_, rfl⟩
            rw [hCD] at hcz ⊢
            clear hCD hc
            have z3 := hb3.size
            have HW3 := Lib.hid (HW2.out.below hb3)
            have CN3 := Lib.hid (CN2.out.below (by omega) hb3)
            have hbw3 : Below w.heap.size w w3 := by (first | ((repeat' first | (with_reducible (first | exact Below.refl _ _ | assumption | refine Below.setCell ?_ ?_ _ | refine Below.alloc ?_ ?_ _ | refine Below.drew ?_ | refine below_drewN ?_ _ | refine Below.trans ?_ (Below.mono (by assumption) ?_))) | omega | (simp; omega) | (simp; done)); done) | (repeat' first | exact Below.refl _ _ | assumption | refine Below.setCell ?_ (by first | omega | (simp; omega) | (simp; done)) _ | refine Below.alloc ?_ (by first | omega | (simp; omega) | (simp; done)) _ | refine Below.drew ?_ | refine below_drewN ?_ _ | refine Below.trans ?_ (Below.mono (by assumption) (by first | omega | (simp; omega) | (simp; done)))))
            obtain ⟨ph, p0, p1, p2, pf, pz⟩ := own3 hb3 fz FH.out
            have PH := Lib.hid ph
            clear hb3 ph FH GH f0 f1 f2 ff g0 g1 g2 g3 gf HW2 CN2
            go_wp2_with fail
            go_roundw
            case rel => exact ⟨k + 1, l2, out, B, AC, cp, cc, by omega, by go_num, rfl, HK, hl2, by omega, HW3.out.alloc _, CN3.out.alloc (by omega) _, heap_past pz PH.out, by (first | ((repeat' first | (with_reducible (first | exact Below.refl _ _ | assumption | refine Below.setCell ?_ ?_ _ | refine Below.alloc ?_ ?_ _ | refine Below.drew ?_ | refine below_drewN ?_ _ | refine Below.trans ?_ (Below.mono (by assumption) ?_))) | omega | (simp; omega) | (simp; done)); done) | (repeat' first | exact Below.refl _ _ | assumption | refine Below.setCell ?_ (by first | omega | (simp; omega) | (simp; done)) _ | refine Below.alloc ?_ (by first | omega | (simp; omega) | (simp; done)) _ | refine Below.drew ?_ | refine below_drewN ?_ _ | refine Below.trans ?_ (Below.mono (by assumption) (by first | omega | (simp; omega) | (simp; done)))))⟩
            case measure => simp [intOf]; omega
      · obtain rfl : k = ms.length := by omega
        have HF := Lib.hid (show affordR c s at_ l ms = out by have h := HST.out; rw [List.take_length] at h; rw [H1.out, h])
        go_wp2_with fail
        go_ret
        rw [HF.out]
        exact ⟨_, _, rfl, HW.out.more (by omega), hbw⟩
end Go.Proofs.Ytombjkokncepnaa

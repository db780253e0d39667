/- Books: Sweep: the walk of the program. -/
import Derived.Test.YtmafdoloidlfeaaRows
import Derived.Test.YtmafdoloidlfeaaBookH0
import Derived.Test.YtmafdoloidlfeaaBookGi
namespace Go.Proofs.Ytmafdoloidlfeaa
open Go.RowKit

theorem info_evi : (Try.prog.info? 118).map (fun i => (i.zero, i.size, i.bytes)) = some (some (.agg #[.int .i64 0, .int .i64 0, .int .i64 0, .int .i64 0, .int .i64 0, .int .i64 0, .bool false]), 7, 56) := by kernel_rfl
set_option maxRecDepth 100000 in
set_option maxHeartbeats 2000000 in
theorem i_Sweep (bt bn bw : Int) (cs : List Chan) (hs : List Htlc) (os : List Circle) (A1 A2 A3 : Option Addr) (p1 p2 p3 : Nat) (age : Int) (w : World) (hlc : cs.length ≤ 1048576) (hlh : hs.length ≤ 1048576) (hlo : os.length ≤ 1048576) (hr : RdBook w w.heap.size A1 cs A2 hs A3 os) :
    Calls Try.prog 47 #[.agg #[.int .i64 bt, .int .i64 bn, .int .i64 bw, .slice A1 cs.length p1, .slice A2 hs.length p2, .slice A3 os.length p3], .int .i64 age] w fun e w' => ∃ A cap, e = .returned (.slice A (sweepOf bt bn bw cs hs os age).length cap) ∧ Ow w' w.heap.size 118 7 (.slice A (sweepOf bt bn bw cs hs os age).length cap) ((sweepOf bt bn bw cs hs os age).map Event.cells) ∧ Below w.heap.size w w' := by
  have HR := Lib.hid hr
  clear hr
  obtain ⟨i0, hi, hz0, hz1, hz2⟩ := info_parts info_evi
  have HI := Lib.hid hi
  have HZ0 := Lib.hid hz0
  have HZ1 := Lib.hid hz1
  have HZ2 := Lib.hid hz2
  clear hi hz0 hz1 hz2
  have hla := agedOf_len bt bn bw cs hs os age
  have HC := fun W q => i_Aged bt bn bw cs hs os A1 A2 A3 p1 p2 p3 age W hlc hlh hlo q
  unfold sweepOf
  obtain ⟨L, hL⟩ : ∃ L, agedOf bt bn bw cs hs os age = L := ⟨_, rfl⟩
  rw [hL] at hla ⊢
  simp only [hL] at HC
  have HCC := Lib.hid HC
  clear HC hL
  go_enter Try.func47, Try.ntmps47
  go_wp2_with fail
  refine (HCC.out _ ((HR.out.below (by (first | ((repeat' first | (with_reducible (first | exact Below.refl _ _ | assumption | refine Below.setCell ?_ ?_ _ | refine Below.alloc ?_ ?_ _ | refine Below.drew ?_ | refine below_drewN ?_ _ | refine Below.trans ?_ (Below.mono (by assumption) ?_))) | omega | (simp; omega) | (simp; done)); done) | (repeat' first | exact Below.refl _ _ | assumption | refine Below.setCell ?_ (by first | omega | (simp; omega) | (simp; done)) _ | refine Below.alloc ?_ (by first | omega | (simp; omega) | (simp; done)) _ | refine Below.drew ?_ | refine below_drewN ?_ _ | refine Below.trans ?_ (Below.mono (by assumption) (by first | omega | (simp; omega) | (simp; done))))))).more (by first | omega | (simp; omega) | (simp; done)))).mono ?_
  rintro e w1 ⟨AA, ca, rfl, how1, hb1⟩
  have z1 := hb1.size
  try simp at z1
  have OA := Lib.hid (how1.more (B' := w.heap.size + 1) (by first | (simp; done) | (simp; omega)))
  have hA1 : Below w.heap.size w w1 := by (first | ((repeat' first | (with_reducible (first | exact Below.refl _ _ | assumption | refine Below.setCell ?_ ?_ _ | refine Below.alloc ?_ ?_ _ | refine Below.drew ?_ | refine below_drewN ?_ _ | refine Below.trans ?_ (Below.mono (by assumption) ?_))) | omega | (simp; omega) | (simp; done)); done) | (repeat' first | exact Below.refl _ _ | assumption | refine Below.setCell ?_ (by first | omega | (simp; omega) | (simp; done)) _ | refine Below.alloc ?_ (by first | omega | (simp; omega) | (simp; done)) _ | refine Below.drew ?_ | refine below_drewN ?_ _ | refine Below.trans ?_ (Below.mono (by assumption) (by first | omega | (simp; omega) | (simp; done)))))
  clear how1 hb1
  go_wp2_with fail
  go_loopw [5, 12] (fun vk i wr => ∃ (k : Nat) (B : Option Addr) (cp : Nat), k ≤ L.length ∧ i = .int .i64 k ∧ vk = .slice B ((L.take k).map evOf).length cp ∧ Ow wr (w.heap.size + 1) 118 7 (.slice B ((L.take k).map evOf).length cp) (((L.take k).map evOf).map Event.cells) ∧ Ow wr (w.heap.size + 1) 3 1 (.slice AA L.length ca) (L.map intCells) ∧ Below w.heap.size w wr) (fun _ i _ => L.length - (intOf i).toNat)
  case atStart => exact ⟨0, none, 0, Nat.zero_le _, rfl, rfl, Ow.nil_, OA.out, hA1⟩
  case round =>
    clear hA1
    obtain ⟨k, B, cp, hk, rfl, rfl, how, howA, hbw⟩ := hrel
    have hbz := hbw.size
    have hrl : ((L.take k).map evOf).length ≤ 1048576 := by rw [List.length_map, List.length_take]; omega
    by_cases hlt : k < L.length
    · obtain ⟨b, off, rfl, hbB, c0⟩ := ints_rd howA.rd hlt
      have DF := Lib.hid (howA.differ how (by decide))
      have OB := Lib.hid how.block
      have HW := Lib.hid how
      have HA := Lib.hid howA
      clear how howA
      have HK := Lib.hid (show ((L.take (k + 1)).map evOf) = ((L.take k).map evOf) ++ [evOf L[k]] by rw [List.take_succ_eq_append_getElem hlt, List.map_append]; rfl)
      obtain ⟨RS, hRS⟩ : ∃ R, ((L.take k).map evOf) = R := ⟨_, rfl⟩
      rw [hRS] at hrl DF OB HW HK ⊢
      clear hRS
      have KA := Lib.hid (fun o1 (w6 : World) (hgr : (wr.alloc o1).grownBy w6 (Value.slice B RS.length cp).ownBlock) => (HA.out.alloc o1).grown hgr DF.out)
      have KB := Lib.hid (fun o1 (w6 : World) (hgr : (wr.alloc o1).grownBy w6 (Value.slice B RS.length cp).ownBlock) => (hbw.alloc (Nat.le_trans (Nat.le_refl _) hbz) o1).grown hgr (by simp; omega) (fun k e => by have := (OB.out k e).1; omega))
      go_wp2_with (at_builtin; refine wpList_app1 rfl _ _ _ rfl (w.heap.size + 1) 118 i0 _ 7 56 Try.underlying73 HI.out HZ0.out HZ1.out HZ2.out rfl (by decide) (.slice B RS.length cp) (RS.map Event.cells) rfl (HW.out.alloc _) wr.heap.size 1 (Event.cells (evOf L[k])) 118 rfl (heap_at (by first | rfl | (simp; done))) rfl (by simp [Event.cells, Value.oneCell']) (by rw [List.length_map]; omega) (by decide) (by first | omega | (simp; omega) | (simp; done)) ?_; intro g cap' w6 how6 hgr6 hat6 hlt6; rw [List.length_map] at how6; rw [List.length_map]; have OA6 := Lib.hid (KA.out _ _ hgr6); have hb6 := KB.out _ _ hgr6; have O6 := Lib.hid how6; clear how6 hgr6 hat6)
      go_roundw
      case rel =>
        refine ⟨k + 1, some ⟨g, 0, none⟩, cap', by omega, by go_num, by rw [HK.out, List.length_append]; rfl, ?_, OA6.out, hb6⟩
        rw [HK.out, List.map_append, List.length_append]
        exact O6.out
      case measure => simp [intOf]; omega
    · obtain rfl : k = L.length := by omega
      rw [List.take_length] at how ⊢
      have HW := Lib.hid how
      clear how howA
      go_wp2_with fail
      go_ret
      exact ⟨_, _, rfl, HW.out.more (by omega), by (first | ((repeat' first | (with_reducible (first | exact Below.refl _ _ | assumption | refine Below.setCell ?_ ?_ _ | refine Below.alloc ?_ ?_ _ | refine Below.drew ?_ | refine below_drewN ?_ _ | refine Below.trans ?_ (Below.mono (by assumption) ?_))) | omega | (simp; omega) | (simp; done)); done) | (repeat' first | exact Below.refl _ _ | assumption | refine Below.setCell ?_ (by first | omega | (simp; omega) | (simp; done)) _ | refine Below.alloc ?_ (by first | omega | (simp; omega) | (simp; done)) _ | refine Below.drew ?_ | refine below_drewN ?_ _ | refine Below.trans ?_ (Below.mono (by assumption) (by first | omega | (simp; omega) | (simp; done)))))⟩
end Go.Proofs.Ytmafdoloidlfeaa

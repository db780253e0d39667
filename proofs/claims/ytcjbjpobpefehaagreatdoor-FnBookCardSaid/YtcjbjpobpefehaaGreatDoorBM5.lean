/- ApS · EqBk: each text proves what its theorems say, with no conditions but theirs. -/
import Derived.Test.YtcjbjpobpefehaaGreatDoorRows
import Derived.Test.YtcjbjpobpefehaaGreatDoorBSOpen
import Derived.Test.YtcjbjpobpefehaaGreatDoorBSClose
import Derived.Test.YtcjbjpobpefehaaGreatDoorBSAdmit
import Derived.Test.YtcjbjpobpefehaaGreatDoorBSSettle
import Derived.Test.YtcjbjpobpefehaaGreatDoorBM4
import Derived.Test.YtcjbjpobpefehaaGreatDoorBSLaunch
import Derived.Test.YtcjbjpobpefehaaGreatDoorBSLand
import Derived.Test.YtcjbjpobpefehaaGreatDoorBBookOi
import Derived.Test.YtcjbjpobpefehaaGreatDoorBM2
import Derived.Laws.StructEq
import Derived.RegionTactic
import Derived.Deep.Cut
namespace Go.Proofs.YtcjbjpobpefehaaGreatDoor
open Go.RowKit Go.Deep
def closeA (b : Bk) (e : Event) : Out := if 0 ≤ chanIx b.cs e.Ch ∧ 1125899906842624 < b.w + (chanOf b.cs e.Ch).Local - e.Fee then bad 2 else closeB b e
def stepS (b : Bk) (e : Event) : Out :=
 if e.Kind = 1 then depB b e
 else if e.Kind = 2 then openB b e
 else if e.Kind = 3 then closeA b e
 else if e.Kind = 4 then priceB b e
 else if e.Kind = 5 then admitS b e (chanOf b.cs e.Ch) (chanOf b.cs e.To)
 else if e.Kind = 6 then settleS b e.Key true
 else if e.Kind = 7 then settleS b e.Key false
 else if e.Kind = 8 then tickB b
 else if e.Kind = 9 then launchS b e
 else if e.Kind = 10 then landS b e.Key true
 else landS b e.Key false
def applyS (b : Bk) (e : Event) : Out :=
 if (b.ok && evB e) = false then bad 1
 else if b.n = 1125899906842624 then bad 2
 else stepS b e
theorem applyS_1 {b : Bk} {e : Event} (h : (b.ok && evB e) = false) : applyS b e = bad 1 := by unfold applyS; rw [if_pos h]
theorem applyS_2 {b : Bk} {e : Event} (h : (b.ok && evB e) = true) (hn : b.n = 1125899906842624) : applyS b e = bad 2 := by unfold applyS; rw [if_neg (by rw [h]; decide), if_pos hn]
theorem applyS_3 {b : Bk} {e : Event} (h : (b.ok && evB e) = true) (hn : b.n ≠ 1125899906842624) : applyS b e = stepS b e := by unfold applyS; rw [if_neg (by rw [h]; decide), if_neg hn]
def Good (n : Int) (o : Out) : Prop := (o.code ≠ 0 ∧ o = bad o.code) ∨ (o.code = 0 ∧ o.b.n = if o.l = [] then n else n + 1)
theorem Good.bad {n c : Int} (h : c ≠ 0) : Good n (bad c) := .inl ⟨h, rfl⟩
theorem Good.done {n : Int} {b : Bk} {l : List Line} (h : b.n = n) : Good n (done b l) := .inr ⟨rfl, by subst h; rfl⟩
theorem stepS_good (b : Bk) (e : Event) : Good b.n (stepS b e) := by
 unfold stepS
 split
 ·
  unfold depB; split <;> first | exact Good.bad (by decide) | exact Good.done rfl
 split
 ·
  unfold openB; (repeat' split) <;> first | exact Good.bad (by decide) | exact Good.done rfl
 split
 ·
  unfold closeA closeB; (repeat' split) <;> first | exact Good.bad (by decide) | exact Good.done rfl
 split
 ·
  unfold priceB; (repeat' split) <;> first | exact Good.bad (by decide) | exact Good.done rfl
 split
 ·
  unfold admitS; (repeat' split) <;> first | exact Good.bad (by decide) | exact Good.done rfl
 split
 ·
  unfold settleS; (repeat' split) <;> first | exact Good.bad (by decide) | exact Good.done rfl
 split
 ·
  unfold settleS; (repeat' split) <;> first | exact Good.bad (by decide) | exact Good.done rfl
 split
 ·
  unfold tickB; (repeat' split) <;> first | exact Good.bad (by decide) | exact Good.done rfl
 split
 ·
  unfold launchS; (repeat' split) <;> first | exact Good.bad (by decide) | exact Good.done rfl
 split
 ·
  unfold landS; (repeat' split) <;> first | exact Good.bad (by decide) | exact Good.done rfl
 ·
  unfold landS; (repeat' split) <;> first | exact Good.bad (by decide) | exact Good.done rfl
theorem ev_amt {e : Event} (h : evB e = true) : amtB e.Amt = true ∧ amtB e.Fee = true := by
 obtain ⟨k, key, ch, tq, amt, fee, yes⟩ := e
 unfold evB at h
 simp only at h
 (repeat' split at h) <;> first | (cases h; done) | (simp only [Bool.and_eq_true, beq_iff_eq, zvc, zvm] at h ⊢; omega)
theorem ev_kind {e : Event} (h : evB e = true) : e.Kind = 1 ∨ e.Kind = 2 ∨ e.Kind = 3 ∨ e.Kind = 4 ∨ e.Kind = 5 ∨ e.Kind = 6 ∨ e.Kind = 7 ∨ e.Kind = 8 ∨ e.Kind = 9 ∨ e.Kind = 10 ∨ e.Kind = 11 := by
 unfold evB at h
 (repeat' split at h) <;> first | (cases h; done) | omega
theorem name_ret {P : Program} {f : Func} {Q : Ending → World → Prop} {e : Exit} {a : Act} {w : World} (h : ∀ wq, wq = w → bodyPost P f Q e a wq) : bodyPost P f Q e a w := h w rfl
def ApplyP (w : World) (o : Out) (n : Int) (e : Ending) (w' : World) : Prop :=
 ∃ (b' : Bk) (L : List Line) (id : Int) (C1 C2 C3 C4 : Option Addr) (q1 q2 q3 q4 : Nat), e = .returned (.tuple #[.agg #[.int .i64 b'.t, .int .i64 b'.n, .int .i64 b'.w, .slice C1 b'.cs.length q1, .slice C2 b'.hs.length q2, .slice C3 b'.os.length q3], .agg #[.int .i64 id, .slice C4 L.length q4], .int .i64 o.code]) ∧
  OwB w' w.heap.size b' C1 C2 C3 q1 q2 q3 ∧ Ow w' w.heap.size 134 3 (.slice C4 L.length q4) (L.map Line.cells) ∧ Below w.heap.size w w' ∧ b' = o.b ∧ L = o.l ∧ id = (if o.l = [] then 0 else n)
def AppEnd (T : TypeId) (w : World) (B X RB RP : Nat) (o : Out) (w' : World) : Prop :=
 ((o.code = 0 ∧ ∃ (b' : Bk) (C1 C2 C3 C4 : Option Addr) (q1 q2 q3 q4 : Nat), o.b = { b' with n := if o.l = [] then b'.n else b'.n + 1 } ∧ Wk T w w' B X b' o.l 0 C1 C2 C3 C4 q1 q2 q3 q4) ∨
  (o.code ≠ 0 ∧ ∃ (b' : Bk) (L' : List Line) (C1 C2 C3 C4 : Option Addr) (q1 q2 q3 q4 : Nat), Wk T w w' B X b' L' o.code C1 C2 C3 C4 q1 q2 q3 q4)) ∧
 w'.heap[RB]? = some (.cells #[.int .i64 0, .int .i64 0, .int .i64 0, .slice none 0 0, .slice none 0 0, .slice none 0 0] 27 (0, 0)) ∧ w'.heap[RP]? = some (.cells #[.int .i64 0, .slice none 0 0] 95 (0, 0))
section
variable {T : TypeId} {w0 w w' : World} {B X RB RP : Nat} {b : Bk} {L : List Line} {code : Int} {A1 A2 A3 A4 : Option Addr} {p1 p2 p3 p4 : Nat}
theorem AppEnd.of_acts {o : Out} {e : Ending} (h0 : Wk T w0 w B X b [] 0 A1 A2 A3 A4 p1 p2 p3 p4) (hb : 27 ∉ wkTs T) (hp : 95 ∉ wkTs T) (hR : w.heap[RB]? = some (.cells #[.int .i64 0, .int .i64 0, .int .i64 0, .slice none 0 0, .slice none 0 0, .slice none 0 0] 27 (0, 0))) (hP : w.heap[RP]? = some (.cells #[.int .i64 0, .slice none 0 0] 95 (0, 0)))
  (h : Acts T w B X o e w') : e = .returned (.tuple #[]) ∧ AppEnd T w0 B X RB RP o w' := by
 rcases h with ⟨h1, b', h2, C1, C2, C3, C4, q1, q2, q3, q4, he, hw⟩ | ⟨h1, b', L', C1, C2, C3, C4, q1, q2, q3, q4, he, hw⟩
 ·
  exact ⟨he, .inl ⟨h1, b', C1, C2, C3, C4, q1, q2, q3, q4, h2, h0.trans hw⟩, hw.box hR hb, hw.box hP hp⟩
 ·
  exact ⟨he, .inr ⟨h1, b', L', C1, C2, C3, C4, q1, q2, q3, q4, h0.trans hw⟩, hw.box hR hb, hw.box hP hp⟩
theorem Wk.aside2 {C : Nat} {t : TypeId} {cells : Array Value} (h : Wk T w0 w B X b L code A1 A2 A3 A4 p1 p2 p3 p4) (hC : w.heap[C]? = some (.cells cells t (0, 0))) (h0 : w0.heap.size ≤ C) (hB : B ≤ C) (htT : t ≠ T) (h1 : 44 ≠ t) (h2 : 46 ≠ t) (h3 : 49 ≠ t) (h4 : 134 ≠ t) (hgr : w.grownBy w' (some C)) : Wk T w0 w' B X b L code A1 A2 A3 A4 p1 p2 p3 p4 := by
 refine ⟨zqg hgr (fun e => ?_) h.x, ⟨h.o.c.grown hgr (Or.inr (h.o.c.ne_ hC h1).symm), h.o.h.grown hgr (Or.inr (h.o.h.ne_ hC h2).symm), h.o.o.grown hgr (Or.inr (h.o.o.ne_ hC h3).symm)⟩, h.l.grown hgr (Or.inr (h.l.ne_ hC h4).symm), h.b.grown hgr h.ble (fun k e => by injection e with e; omega), ?_, h.bx⟩
 ·
  injection e with e
  subst e
  rw [h.x] at hC
  injection hC with hC
  injection hC with _ hC
  exact htT hC.symm
 ·
  intro k cs t' h5 h6
  have h7 := h.f k cs t' h5 h6
  exact zqg hgr (fun e => by injection e with e; have := (gz_ h5).1; omega) h7
end
end Go.Proofs.YtcjbjpobpefehaaGreatDoor
namespace Go.Proofs.YtcjbjpobpefehaaGreatDoor
open Go.RowKit Go.Deep
theorem neq_chan (w : World) (c : Chan) : (binOp .neq 44 (.agg #[.int .i64 c.Id, .int .i64 c.Size, .int .i64 c.Local, .int .i64 c.Remote, .int .i64 c.Base, .int .i64 c.Ppm, .int .i64 c.Score]) (.agg #[.int .i64 c.Id, .int .i64 c.Size, .int .i64 c.Local, .int .i64 c.Remote, .int .i64 c.Base, .int .i64 c.Ppm, .int .i64 c.Score])).run Tryz.prog w = .ok (.bool false) w := by
 rw [run_neq_struct, show (10000 : Nat) = 9999 + 1 from rfl, run_equalIn_struct w 9999 _ _ _ (by kernel_rfl) (by kernel_rfl)]
 simp [go_sem, Tryz.underlying44, Tryz.underlying3]
theorem neq_htlc (w : World) (c : Htlc) : (binOp .neq 46 (.agg #[.int .i64 c.Key, .int .i64 c.In, .int .i64 c.Out, .int .i64 c.AmtIn, .int .i64 c.AmtOut, .bool c.Kept, .int .i64 c.Age]) (.agg #[.int .i64 c.Key, .int .i64 c.In, .int .i64 c.Out, .int .i64 c.AmtIn, .int .i64 c.AmtOut, .bool c.Kept, .int .i64 c.Age])).run Tryz.prog w = .ok (.bool false) w := by
 rw [run_neq_struct, show (10000 : Nat) = 9999 + 1 from rfl, run_equalIn_struct w 9999 _ _ _ (by kernel_rfl) (by kernel_rfl)]
 simp [go_sem, Tryz.underlying46, Tryz.underlying3, Tryz.underlying4]
theorem neq_circle (w : World) (c : Circle) : (binOp .neq 49 (.agg #[.int .i64 c.Key, .int .i64 c.From, .int .i64 c.To, .int .i64 c.Amt, .int .i64 c.Fee]) (.agg #[.int .i64 c.Key, .int .i64 c.From, .int .i64 c.To, .int .i64 c.Amt, .int .i64 c.Fee])).run Tryz.prog w = .ok (.bool false) w := by
 rw [run_neq_struct, show (10000 : Nat) = 9999 + 1 from rfl, run_equalIn_struct w 9999 _ _ _ (by kernel_rfl) (by kernel_rfl)]
 simp [go_sem, Tryz.underlying49, Tryz.underlying3]
set_option maxRecDepth 100000 in
set_option maxHeartbeats 4000000 in
theorem i_equalBooks (bt bn bw : Int) (cs : List Chan) (hs : List Htlc) (os : List Circle) (A1 A2 A3 C1 C2 C3 : Option Addr) (p1 p2 p3 q1 q2 q3 : Nat) (w : World) (hlc : cs.length ≤ 1048576) (hlh : hs.length ≤ 1048576) (hlo : os.length ≤ 1048576) (hr : RdBook w w.heap.size A1 cs A2 hs A3 os) (hr2 : RdBook w w.heap.size C1 cs C2 hs C3 os) :
  Calls Tryz.prog 28 #[.agg #[.int .i64 bt, .int .i64 bn, .int .i64 bw, .slice A1 cs.length p1, .slice A2 hs.length p2, .slice A3 os.length p3], .agg #[.int .i64 bt, .int .i64 bn, .int .i64 bw, .slice C1 cs.length q1, .slice C2 hs.length q2, .slice C3 os.length q3]] w fun e w' => e = .returned (.bool true) ∧ Below w.heap.size w w' := by
 have HR := Lib.hid hr
 have HR2 := Lib.hid hr2
 clear hr hr2
 have HG_w : Hid (Below w.heap.size w w) := Lib.hid (Below.refl _ _)
 go_enter Tryz.func28, Tryz.ntmps28
 go_upto_region 1 with fail
 refine nm_ ?_
 intro w1 hw
 have HG_w1 : Hid (Below w.heap.size w w1) := Lib.hid (by rw [hw]; exact ((HG_w.out).alloc (by have := HG_w.out.size; first | omega | (simp; done) | (simp; omega)) _).alloc (by have := HG_w.out.size; first | omega | (simp; done) | (simp; omega)) _)
 obtain ⟨KB, h9K⟩ : ∃ v, v = w.heap.size := ⟨_, rfl⟩
 have HK_w1 : Hid (w1.heap[KB]? = some (.cells #[.int .i64 bt, .int .i64 bn, .int .i64 bw, .slice A1 cs.length p1, .slice A2 hs.length p2, .slice A3 os.length p3] 27 (0, 0))) := Lib.hid (by rw [hw, h9K]; first | done | exact zqe (by simp) (zxa (by first | rfl | (simp; done))))
 have HLK : Hid (w.heap.size ≤ KB) := Lib.hid (by have := HG_w.out.size; omega)
 obtain ⟨MB, h9M⟩ : ∃ v, v = w.heap.size + 1 := ⟨_, rfl⟩
 have HM_w1 : Hid (w1.heap[MB]? = some (.cells #[.int .i64 bt, .int .i64 bn, .int .i64 bw, .slice C1 cs.length q1, .slice C2 hs.length q2, .slice C3 os.length q3] 27 (0, 0))) := Lib.hid (by rw [hw, h9M]; first | done | exact zxa (by first | rfl | (simp; done)))
 have HLM : Hid (w.heap.size ≤ MB) := Lib.hid (by have := HG_w.out.size; omega)
 try rw [← h9M]
 try rw [← h9K]
 have HNMK : Hid (MB ≠ KB) := Lib.hid (by omega)
 clear hw h9K h9M
 obtain ⟨K0, K1, K2, K3, K4, K5, Kf, Kz⟩ := box6_ HK_w1.out
 obtain ⟨M0, M1, M2, M3, M4, M5, Mf, Mz⟩ := box6_ HM_w1.out
 go_wp2_with fail
 go_loopw [57] (fun i wr => ∃ k : Nat, k ≤ cs.length ∧ i = .int .i64 k ∧ Hid (wr.heap[KB]? = some (.cells #[.int .i64 bt, .int .i64 bn, .int .i64 bw, .slice A1 cs.length p1, .slice A2 hs.length p2, .slice A3 os.length p3] 27 (0, 0))) ∧ Hid (wr.heap[MB]? = some (.cells #[.int .i64 bt, .int .i64 bn, .int .i64 bw, .slice C1 cs.length q1, .slice C2 hs.length q2, .slice C3 os.length q3] 27 (0, 0))) ∧ Hid (Below w.heap.size w wr)) (fun i _ => cs.length - (intOf i).toNat)
 case atStart => exact ⟨0, Nat.zero_le _, rfl, HK_w1, HM_w1, HG_w1⟩
 case round =>
  clear K0 K1 K2 K3 K4 K5 M0 M1 M2 M3 M4 M5 Kf Mf Kz Mz
  clear HK_w1 HM_w1 HG_w1
  obtain ⟨k, hk, rfl, HK_wr, HM_wr, HG_wr⟩ := hrel
  have hgz := HG_wr.out.size
  by_cases hlt : k < cs.length
  ·
   obtain ⟨b, off, hA, hbB, c0, c1, c2, c3, c4, c5, c6⟩ := Chan.rd (HR.out.c.below HG_wr.out) hlt
   subst hA
   obtain ⟨b', off', hA, hbB', d0, d1, d2, d3, d4, d5, d6⟩ := Chan.rd (HR2.out.c.below HG_wr.out) hlt
   subst hA
   obtain ⟨K0, K1, K2, K3, K4, K5, Kf, Kz⟩ := box6_ HK_wr.out
   obtain ⟨M0, M1, M2, M3, M4, M5, Mf, Mz⟩ := box6_ HM_wr.out
   have hq := fun W => neq_chan W cs[k]
   have i1 : (0 : Int) ≤ (k : Int) := by omega
   have i2 : (k : Int) < (cs.length : Int) := by omega
   go_wp2_with fail
   go_region
   all_goals go_wp2_with fail
   all_goals go_roundw
   case rel => exact ⟨k + 1, by omega, by go_num, Lib.hid HK_wr.out, Lib.hid HM_wr.out, Lib.hid HG_wr.out.drew⟩
   case measure => simp [intOf]; omega
  ·
   obtain rfl : k = cs.length := by omega
   obtain ⟨K0, K1, K2, K3, K4, K5, Kf, Kz⟩ := box6_ HK_wr.out
   obtain ⟨M0, M1, M2, M3, M4, M5, Mf, Mz⟩ := box6_ HM_wr.out
   go_wp2_with fail
   obtain ⟨wo, rfl⟩ : ∃ wo : World, wo = wr := ⟨_, rfl⟩
   have HK_wo := HK_wr
   have HM_wo := HM_wr
   have HG_wo := HG_wr
   clear HK_wr HM_wr HG_wr hgz hk hlt
   go_wp2_with fail
   go_loopw [75] (fun i wr => ∃ k : Nat, k ≤ hs.length ∧ i = .int .i64 k ∧ Hid (wr.heap[KB]? = some (.cells #[.int .i64 bt, .int .i64 bn, .int .i64 bw, .slice A1 cs.length p1, .slice A2 hs.length p2, .slice A3 os.length p3] 27 (0, 0))) ∧ Hid (wr.heap[MB]? = some (.cells #[.int .i64 bt, .int .i64 bn, .int .i64 bw, .slice C1 cs.length q1, .slice C2 hs.length q2, .slice C3 os.length q3] 27 (0, 0))) ∧ Hid (Below w.heap.size w wr)) (fun i _ => hs.length - (intOf i).toNat)
   case atStart => exact ⟨0, Nat.zero_le _, rfl, HK_wo, HM_wo, HG_wo⟩
   case round =>
    clear K0 K1 K2 K3 K4 K5 M0 M1 M2 M3 M4 M5 Kf Mf Kz Mz
    clear HK_wo HM_wo HG_wo
    obtain ⟨k, hk, rfl, HK_wr, HM_wr, HG_wr⟩ := hrel
    have hgz := HG_wr.out.size
    by_cases hlt : k < hs.length
    ·
     obtain ⟨b, off, hA, hbB, c0, c1, c2, c3, c4, c5, c6⟩ := Htlc.rd (HR.out.h.below HG_wr.out) hlt
     subst hA
     obtain ⟨b', off', hA, hbB', d0, d1, d2, d3, d4, d5, d6⟩ := Htlc.rd (HR2.out.h.below HG_wr.out) hlt
     subst hA
     obtain ⟨K0, K1, K2, K3, K4, K5, Kf, Kz⟩ := box6_ HK_wr.out
     obtain ⟨M0, M1, M2, M3, M4, M5, Mf, Mz⟩ := box6_ HM_wr.out
     have hq := fun W => neq_htlc W hs[k]
     have i1 : (0 : Int) ≤ (k : Int) := by omega
     have i2 : (k : Int) < (hs.length : Int) := by omega
     go_wp2_with fail
     go_region
     all_goals go_wp2_with fail
     all_goals go_roundw
     case rel => exact ⟨k + 1, by omega, by go_num, Lib.hid HK_wr.out, Lib.hid HM_wr.out, Lib.hid HG_wr.out.drew⟩
     case measure => simp [intOf]; omega
    ·
     obtain rfl : k = hs.length := by omega
     obtain ⟨K0, K1, K2, K3, K4, K5, Kf, Kz⟩ := box6_ HK_wr.out
     obtain ⟨M0, M1, M2, M3, M4, M5, Mf, Mz⟩ := box6_ HM_wr.out
     go_wp2_with fail
     obtain ⟨wo, rfl⟩ : ∃ wo : World, wo = wr := ⟨_, rfl⟩
     have HK_wo := HK_wr
     have HM_wo := HM_wr
     have HG_wo := HG_wr
     clear HK_wr HM_wr HG_wr hgz hk hlt
     go_wp2_with fail
     go_loopw [93] (fun i wr => ∃ k : Nat, k ≤ os.length ∧ i = .int .i64 k ∧ Hid (wr.heap[KB]? = some (.cells #[.int .i64 bt, .int .i64 bn, .int .i64 bw, .slice A1 cs.length p1, .slice A2 hs.length p2, .slice A3 os.length p3] 27 (0, 0))) ∧ Hid (wr.heap[MB]? = some (.cells #[.int .i64 bt, .int .i64 bn, .int .i64 bw, .slice C1 cs.length q1, .slice C2 hs.length q2, .slice C3 os.length q3] 27 (0, 0))) ∧ Hid (Below w.heap.size w wr)) (fun i _ => os.length - (intOf i).toNat)
     case atStart => exact ⟨0, Nat.zero_le _, rfl, HK_wo, HM_wo, HG_wo⟩
     case round =>
      clear K0 K1 K2 K3 K4 K5 M0 M1 M2 M3 M4 M5 Kf Mf Kz Mz
      clear HK_wo HM_wo HG_wo
      obtain ⟨k, hk, rfl, HK_wr, HM_wr, HG_wr⟩ := hrel
      have hgz := HG_wr.out.size
      by_cases hlt : k < os.length
      ·
       obtain ⟨b, off, hA, hbB, c0, c1, c2, c3, c4⟩ := Circle.rd (HR.out.o.below HG_wr.out) hlt
       subst hA
       obtain ⟨b', off', hA, hbB', d0, d1, d2, d3, d4⟩ := Circle.rd (HR2.out.o.below HG_wr.out) hlt
       subst hA
       obtain ⟨K0, K1, K2, K3, K4, K5, Kf, Kz⟩ := box6_ HK_wr.out
       obtain ⟨M0, M1, M2, M3, M4, M5, Mf, Mz⟩ := box6_ HM_wr.out
       have hq := fun W => neq_circle W os[k]
       have i1 : (0 : Int) ≤ (k : Int) := by omega
       have i2 : (k : Int) < (os.length : Int) := by omega
       go_wp2_with fail
       go_region
       all_goals go_wp2_with fail
       all_goals go_roundw
       case rel => exact ⟨k + 1, by omega, by go_num, Lib.hid HK_wr.out, Lib.hid HM_wr.out, Lib.hid HG_wr.out.drew⟩
       case measure => simp [intOf]; omega
      ·
       obtain rfl : k = os.length := by omega
       obtain ⟨K0, K1, K2, K3, K4, K5, Kf, Kz⟩ := box6_ HK_wr.out
       obtain ⟨M0, M1, M2, M3, M4, M5, Mf, Mz⟩ := box6_ HM_wr.out
       go_wp2_with fail
       go_ret
       exact ⟨rfl, HG_wr.out⟩
set_option maxRecDepth 100000 in
set_option maxHeartbeats 2000000 in
theorem i_SameBook (bt bn bw : Int) (cs : List Chan) (hs : List Htlc) (os : List Circle) (A1 A2 A3 C1 C2 C3 : Option Addr) (p1 p2 p3 q1 q2 q3 : Nat) (w : World) (hlc : cs.length ≤ 1048576) (hlh : hs.length ≤ 1048576) (hlo : os.length ≤ 1048576) (hr : RdBook w w.heap.size A1 cs A2 hs A3 os) (hr2 : RdBook w w.heap.size C1 cs C2 hs C3 os) (hok : bookB bt bn bw cs hs os = true) :
  Calls Tryz.prog 10 #[.agg #[.int .i64 bt, .int .i64 bn, .int .i64 bw, .slice A1 cs.length p1, .slice A2 hs.length p2, .slice A3 os.length p3], .agg #[.int .i64 bt, .int .i64 bn, .int .i64 bw, .slice C1 cs.length q1, .slice C2 hs.length q2, .slice C3 os.length q3]] w fun e w' => e = .returned (.bool true) ∧ Below w.heap.size w w' := by
 have HR := Lib.hid hr
 have HR2 := Lib.hid hr2
 have HOK := Lib.hid hok
 clear hr hr2 hok
 have HG_w : Hid (Below w.heap.size w w) := Lib.hid (Below.refl _ _)
 go_enter Tryz.func10, Tryz.ntmps10
 go_upto_region 1 with fail
 refine nm_ ?_
 intro w1 hw
 have HG_w1 : Hid (Below w.heap.size w w1) := Lib.hid (by rw [hw]; exact ((HG_w.out).alloc (by have := HG_w.out.size; first | omega | (simp; done) | (simp; omega)) _).alloc (by have := HG_w.out.size; first | omega | (simp; done) | (simp; omega)) _)
 obtain ⟨KB, h9K⟩ : ∃ v, v = w.heap.size := ⟨_, rfl⟩
 have HK_w1 : Hid (w1.heap[KB]? = some (.cells #[.int .i64 bt, .int .i64 bn, .int .i64 bw, .slice A1 cs.length p1, .slice A2 hs.length p2, .slice A3 os.length p3] 27 (0, 0))) := Lib.hid (by rw [hw, h9K]; first | done | exact zqe (by simp) (zxa (by first | rfl | (simp; done))))
 have HLK : Hid (w.heap.size ≤ KB) := Lib.hid (by have := HG_w.out.size; omega)
 obtain ⟨MB, h9M⟩ : ∃ v, v = w.heap.size + 1 := ⟨_, rfl⟩
 have HM_w1 : Hid (w1.heap[MB]? = some (.cells #[.int .i64 bt, .int .i64 bn, .int .i64 bw, .slice C1 cs.length q1, .slice C2 hs.length q2, .slice C3 os.length q3] 27 (0, 0))) := Lib.hid (by rw [hw, h9M]; first | done | exact zxa (by first | rfl | (simp; done)))
 have HLM : Hid (w.heap.size ≤ MB) := Lib.hid (by have := HG_w.out.size; omega)
 try rw [← h9M]
 try rw [← h9K]
 have HNMK : Hid (MB ≠ KB) := Lib.hid (by omega)
 clear hw h9K h9M
 obtain ⟨K0, K1, K2, K3, K4, K5, Kf, Kz⟩ := box6_ HK_w1.out
 obtain ⟨M0, M1, M2, M3, M4, M5, Mf, Mz⟩ := box6_ HM_w1.out
 go_wp2_with fail
 refine (i_BookOk bt bn bw cs hs os _ _ _ _ _ _ _ hlc hlh hlo ((HR.out.below HG_w1.out).more HG_w1.out.size)).mono ?_
 rintro e' w2 ⟨rfl, hb⟩
 rw [HOK.out]
 have HG_w2 := Lib.hid (HG_w1.out.trans (hb.mono HG_w1.out.size))
 have HK_w2 := Lib.hid (zqf hb (gz_ HK_w1.out).1 HK_w1.out)
 have HM_w2 := Lib.hid (zqf hb (gz_ HM_w1.out).1 HM_w1.out)
 clear hb
 clear K0 K1 K2 K3 K4 K5 M0 M1 M2 M3 M4 M5 Kf Mf Kz Mz
 obtain ⟨K0, K1, K2, K3, K4, K5, Kf, Kz⟩ := box6_ HK_w2.out
 obtain ⟨M0, M1, M2, M3, M4, M5, Mf, Mz⟩ := box6_ HM_w2.out
 go_wp2_with fail
 refine (i_BookOk bt bn bw cs hs os _ _ _ _ _ _ _ hlc hlh hlo ((HR2.out.below HG_w2.out).more HG_w2.out.size)).mono ?_
 rintro e' w3 ⟨rfl, hb⟩
 rw [HOK.out]
 have HG_w3 := Lib.hid (HG_w2.out.trans (hb.mono HG_w2.out.size))
 have HK_w3 := Lib.hid (zqf hb (gz_ HK_w2.out).1 HK_w2.out)
 have HM_w3 := Lib.hid (zqf hb (gz_ HM_w2.out).1 HM_w2.out)
 clear hb
 clear K0 K1 K2 K3 K4 K5 M0 M1 M2 M3 M4 M5 Kf Mf Kz Mz
 obtain ⟨K0, K1, K2, K3, K4, K5, Kf, Kz⟩ := box6_ HK_w3.out
 obtain ⟨M0, M1, M2, M3, M4, M5, Mf, Mz⟩ := box6_ HM_w3.out
 go_wp2_with fail
 refine (i_equalBooks bt bn bw cs hs os _ _ _ _ _ _ _ _ _ _ _ _ _ hlc hlh hlo ((HR.out.below HG_w3.out).more HG_w3.out.size) ((HR2.out.below HG_w3.out).more HG_w3.out.size)).mono ?_
 rintro e' w4 ⟨rfl, hb⟩
 have HG_w4 := Lib.hid (HG_w3.out.trans (hb.mono HG_w3.out.size))
 have HK_w4 := Lib.hid (zqf hb (gz_ HK_w3.out).1 HK_w3.out)
 have HM_w4 := Lib.hid (zqf hb (gz_ HM_w3.out).1 HM_w3.out)
 clear hb
 clear K0 K1 K2 K3 K4 K5 M0 M1 M2 M3 M4 M5 Kf Mf Kz Mz
 obtain ⟨K0, K1, K2, K3, K4, K5, Kf, Kz⟩ := box6_ HK_w4.out
 obtain ⟨M0, M1, M2, M3, M4, M5, Mf, Mz⟩ := box6_ HM_w4.out
 go_wp2_with fail
 go_ret
 exact ⟨rfl, HG_w4.out⟩
end Go.Proofs.YtcjbjpobpefehaaGreatDoor

/- Draws: events of which many end payments. -/
import Derived.Test.YtcjbjpobpefehaaRows
import Derived.Test.YtcjbjpobpefehaaVDrawEs
import Derived.Test.YtcjbjpobpefehaaVM1
namespace Go.Proofs.Ytcjbjpobpefehaa
open Go.RowKit Go.Deep
set_option maxRecDepth 100000 in
set_option maxHeartbeats 4000000 in
theorem s_l22Events (g : Nat) (w : World) (hc : Crs w g) :
  Calls Try.prog 56 #[.pointer (some ⟨g, 0, none⟩)] w (DrewEs g 200 w) := by
 obtain ⟨i0, hi, hz0, hz1, hz2⟩ := info_parts info_EventA
 have HI0 := Lib.hid hi
 have HI1 := Lib.hid hz0
 have HI2 := Lib.hid hz1
 have HI3 := Lib.hid hz2
 clear hi hz0 hz1 hz2
 have hgw := hc.lt
 have HC_w := Lib.hid hc
 have HG_w := Lib.hid (World.grownBy.refl w (some g))
 clear hc
 go_enter Try.func56, Try.ntmps56
 go_wp2_with fail
 have HSZ0 := Lib.hid HG_w.out.size
 refine (s_l07Events g 14 _ HC_w.out (by decide) (by decide)).mono ?_
 rintro e' w1 ⟨es, A, cap, rfl, hel, how, hcn, hg⟩
 have HC_w1 := Lib.hid hcn
 have HG_w1 := Lib.hid (zqj HG_w.out hg)
 clear hcn hg
 have OS_w1 := Lib.hid (how.more HSZ0.out)
 have HEL := Lib.hid hel
 clear how hel
 go_wp2_with fail
 refine (zxd g 8 _ HC_w1.out (by first | decide | omega) (by first | decide | omega)).mono ?_
 rintro e' w2 ⟨n, n1, n2, rfl, hcn, hg⟩
 have HC_w2 := Lib.hid hcn
 have HG_w2 := Lib.hid (zqj HG_w1.out hg)
 have OS_w2 := Lib.hid (OS_w1.out.pastL hg hgw)
 clear hcn hg
 go_wp2_with fail
 go_loopw [3, 4] (fun vl vn wr => ∃ (N : Int) (L : List Event) (A : Option Addr) (cp : Nat), 0 ≤ N ∧ N ≤ 7 ∧ vn = .int .i64 N ∧ vl = .slice A L.length cp ∧ (L.length : Int) + 2 * N ≤ 125 ∧ Hid (Ow wr w.heap.size 67 7 (.slice A L.length cp) (L.map Event.cells)) ∧ Hid (Crs wr g) ∧ Hid (w.grownBy wr (some g))) (fun _ vn _ => (intOf vn).toNat)
 case atStart => exact ⟨n, es, A, cap, n1, by omega, rfl, rfl, by have := HEL.out; omega, OS_w2, HC_w2, HG_w2⟩
 case round =>
  clear OS_w2 HC_w2 HG_w2
  obtain ⟨N, L, A, cp, n3, n4, rfl, rfl, hLN, OS_wr, HC_wr, HG_wr⟩ := hrel
  have hgz := HG_wr.out.size
  by_cases hlt : 0 < N
  ·
   have hc0 := Lib.hid hgw
   go_wp2_with fail
   refine (zxd g 3 _ HC_wr.out (by first | decide | omega) (by first | decide | omega)).mono ?_
   rintro e' w51 ⟨a, a1, a2, rfl, hcn, hg⟩
   have HC_w51 := Lib.hid hcn
   have HG_w51 := Lib.hid (zqj HG_wr.out hg)
   have OS_w51 := Lib.hid (OS_wr.out.pastL hg hgw)
   clear hcn hg
   go_wp2_with fail
   refine (zxd g 2000 _ HC_w51.out (by first | decide | omega) (by first | decide | omega)).mono ?_
   rintro e' w52 ⟨c, c1, c2, rfl, hcn, hg⟩
   have HC_w52 := Lib.hid hcn
   have HG_w52 := Lib.hid (zqj HG_w51.out hg)
   have OS_w52 := Lib.hid (OS_w51.out.pastL hg hgw)
   clear hcn hg
   go_upto_region 6 with fail
   refine nm_ ?_
   intro w53 hw
   have HC_w53 : Hid (Crs w53 g) := Lib.hid (by rw [hw]; exact (HC_w52.out).alloc _)
   have HG_w53 : Hid (w.grownBy w53 (some g)) := Lib.hid (by rw [hw]; exact zjj (HG_w52.out) _)
   have OS_w53 : Hid (Ow w53 w.heap.size 67 7 (.slice A L.length cp) (L.map Event.cells)) := Lib.hid (by rw [hw]; exact (OS_w52.out).alloc _)
   obtain ⟨EB, h9E⟩ : ∃ v, v = w52.heap.size := ⟨_, rfl⟩
   have HE_w53 : Hid (w53.heap[EB]? = some (.cells #[.int .i64 5, .int .i64 (20 + N), .int .i64 (1 + a), .int .i64 0, .int .i64 (1 + c), .int .i64 0, .bool false] 67 (0, 0))) := Lib.hid (by rw [hw, h9E]; exact zxc (by first | rfl | (simp; done)))
   have HLE : Hid (w.heap.size ≤ EB) := Lib.hid (by have := HG_w52.out.size; omega)
   have HASE : Hid (∀ k, (.slice A L.length cp : Value).ownBlock = some k → k ≠ EB) := Lib.hid (fun k9 e9 => by have := (OS_w52.out.block k9 e9).2; omega)
   try rw [← h9E]
   clear hw h9E
   obtain ⟨E0, E1, E2, E3, E4, E5, E6, Ef, Ez⟩ := box7_ HE_w53.out
   go_upto_region 7 with fail
   refine nm_ ?_
   intro w54 hw
   have HC_w54 : Hid (Crs w54 g) := Lib.hid (by rw [hw]; exact (HC_w53.out).set (by have := HLE.out; omega))
   have HG_w54 : Hid (w.grownBy w54 (some g)) := Lib.hid (by rw [hw]; exact zqi (HG_w53.out) HLE.out _ _)
   have HE_w54 : Hid (w54.heap[EB]? = some (.cells #[.int .i64 5, .int .i64 (20 + N), .int .i64 (1 + a), .int .i64 (1 + (1 + a) % 3), .int .i64 (1 + c), .int .i64 0, .bool false] 67 (0, 0))) := Lib.hid (by rw [hw]; exact zqa (HE_w53.out))
   have OS_w54 : Hid (Ow w54 w.heap.size 67 7 (.slice A L.length cp) (L.map Event.cells)) := Lib.hid (by rw [hw]; exact (OS_w53.out).apart HASE.out)
   clear hw
   clear E0 E1 E2 E3 E4 E5 E6 Ef Ez
   obtain ⟨E0, E1, E2, E3, E4, E5, E6, Ef, Ez⟩ := box7_ HE_w54.out
   refine zxj (fun w' => w'.cell? ⟨EB, 0, none⟩ = some (.int .i64 5) ∧ w'.cell? ⟨EB, 1, none⟩ = some (.int .i64 (20 + N)) ∧ w'.cell? ⟨EB, 2, none⟩ = some (.int .i64 (1 + a)) ∧ w'.cell? ⟨EB, 3, none⟩ = some (.int .i64 (1 + (1 + a) % 3)) ∧ w'.cell? ⟨EB, 4, none⟩ = some (.int .i64 (1 + c)) ∧ w'.cell? ⟨EB, 5, none⟩ = some (.int .i64 0) ∧ w'.cell? ⟨EB, 6, none⟩ = some (.bool false)) [(0, some 30, false, none), (1, some 31, false, none), (2, some 32, false, none), (5, some 35, false, none), (6, some 36, false, none), (3, some 33, true, none), (4, some 34, false, none), (7, some 37, false, none), (8, some 38, true, none), (9, some 39, true, none), (10, some 3, false, none)] (by kernel_rfl) (by kernel_rfl) (by kernel_rfl) ⟨E0, E1, E2, E3, E4, E5, E6⟩ (fun hHeld => ?_)
   obtain ⟨w55, hwd⟩ : ∃ wd, w54.drew = wd := ⟨_, rfl⟩
   have HC_w55 : Hid (Crs w55 g) := Lib.hid (by rw [← hwd]; exact HC_w54.out)
   have HG_w55 : Hid (w.grownBy w55 (some g)) := Lib.hid (by rw [← hwd]; exact grown_drewL HG_w54.out)
   have HE_w55 : Hid (w55.heap[EB]? = some (.cells #[.int .i64 5, .int .i64 (20 + N), .int .i64 (1 + a), .int .i64 (1 + (1 + a) % 3), .int .i64 (1 + c), .int .i64 0, .bool false] 67 (0, 0))) := Lib.hid (by rw [← hwd]; exact zqh HE_w54.out)
   have OS_w55 : Hid (Ow w55 w.heap.size 67 7 (.slice A L.length cp) (L.map Event.cells)) := Lib.hid (by rw [← hwd]; exact OS_w54.out.drew_)
   clear E0 E1 E2 E3 E4 E5 E6 Ef Ez
   rw [hwd] at hHeld ⊢
   clear hwd
   obtain ⟨E0, E1, E2, E3, E4, E5, E6, Ef, Ez⟩ := box7_ HE_w55.out
   refine tk_ ?_
   refine Sq.step rfl (by rfl) (fun K hK => ?_)
   go_simp
   refine (zxd g 2 _ HC_w55.out (by first | decide | omega) (by first | decide | omega)).mono ?_
   rintro e' w56 ⟨k, k1, k2, rfl, hcn, hg⟩
   have HC_w56 := Lib.hid hcn
   have HG_w56 := Lib.hid (zqj HG_w55.out hg)
   have HE_w56 := Lib.hid (zqe hg (zjf (by have := HLE.out; omega)) HE_w55.out)
   have OS_w56 := Lib.hid (OS_w55.out.pastL hg hgw)
   clear hcn hg
   clear E0 E1 E2 E3 E4 E5 E6 Ef Ez
   obtain ⟨E0, E1, E2, E3, E4, E5, E6, Ef, Ez⟩ := box7_ HE_w56.out
   go_simp
   refine hK.out _ _ ⟨E0, E1, E2, E3, E4, E5, E6⟩ (fun hHeld => ?_)
   clear hK K
   refine tk_ ?_
   refine Sq.step rfl (by rfl) (fun K hK => ?_)
   go_simp
   refine zwa (fun w57 hw => ?_)
   have HC_w57 : Hid (Crs w57 g) := Lib.hid (by rw [hw]; exact (HC_w56.out).alloc _)
   have HG_w57 : Hid (w.grownBy w57 (some g)) := Lib.hid (by rw [hw]; exact zjj (HG_w56.out) _)
   have HE_w57 : Hid (w57.heap[EB]? = some (.cells #[.int .i64 5, .int .i64 (20 + N), .int .i64 (1 + a), .int .i64 (1 + (1 + a) % 3), .int .i64 (1 + c), .int .i64 0, .bool false] 67 (0, 0))) := Lib.hid (by rw [hw]; exact zqd (by have := (gz_ HE_w56.out).1; first | omega | (simp; omega)) (HE_w56.out))
   have OS_w57 : Hid (Ow w57 w.heap.size 67 7 (.slice A L.length cp) (L.map Event.cells)) := Lib.hid (by rw [hw]; exact (OS_w56.out).alloc _)
   have HX : Hid (Ow w57 w.heap.size 67 7 (.slice (some ⟨w56.heap.size, 0, none⟩) 2 2) ([(⟨5, (20 + N), (1 + a), (1 + (1 + a) % 3), (1 + c), 0, false⟩ : Event), ⟨(IntKind.i64.wrap (6 + k)), (20 + N), 0, 0, 0, 0, false⟩].map Event.cells)) := Lib.hid (by rw [hw]; exact Ow.lit_ (rows := [(⟨5, (20 + N), (1 + a), (1 + (1 + a) % 3), (1 + c), 0, false⟩ : Event), ⟨(IntKind.i64.wrap (6 + k)), (20 + N), 0, 0, 0, 0, false⟩].map Event.cells) (event_uni _) rfl (show (2 : Nat) ≤ maxLen by decide) rfl HG_w56.out.size)
   have hbz := HG_w57.out.size
   clear hw
   clear E0 E1 E2 E3 E4 E5 E6 Ef Ez
   obtain ⟨E0, E1, E2, E3, E4, E5, E6, Ef, Ez⟩ := box7_ HE_w57.out
   go_simp
   refine hK.out _ _ ⟨E0, E1, E2, E3, E4, E5, E6⟩ (fun hHeld => ?_)
   clear hK K
   refine tk_ ?_
   refine Sq.step rfl (by rfl) (fun K hK => ?_)
   refine of_step (ops := #[]) (E := True) rfl (step_appN rfl _ _ _ rfl w.heap.size 67 i0 _ 7 56 Try.underlying52 HI0.out HI1.out HI2.out HI3.out rfl (by decide) A cp (L.map Event.cells) L.length (by rw [List.length_map]) (by rfl) OS_w57.out (some ⟨w56.heap.size, 0, none⟩) 2 ([(⟨5, (20 + N), (1 + a), (1 + (1 + a) % 3), (1 + c), 0, false⟩ : Event), ⟨(IntKind.i64.wrap (6 + k)), (20 + N), 0, 0, 0, 0, false⟩].map Event.cells) 2 rfl (by rfl) w57.heap.size HX.out.rd (by simp [Event.cells, Value.oneCell']) (by simp only [List.length_map]; have : [(⟨5, (20 + N), (1 + a), (1 + (1 + a) % 3), (1 + c), 0, false⟩ : Event), ⟨(IntKind.i64.wrap (6 + k)), (20 + N), 0, 0, 0, 0, false⟩].length = 2 := rfl; omega) (by decide) hbz ?_)
   intro A2 cp2 x2 how hb9 hgr
   have HC_x2 := Lib.hid (HC_w57.out.grown hgr (fun k9 e9 => by have := (OS_w57.out.block k9 e9).1; have := hc0.out; omega))
   have HG_x2 := Lib.hid (zwh HG_w57.out OS_w57.out hgr)
   have HE_x2 : Hid (x2.heap[EB]? = some (.cells #[.int .i64 5, .int .i64 (20 + N), .int .i64 (1 + a), .int .i64 (1 + (1 + a) % 3), .int .i64 (1 + c), .int .i64 0, .bool false] 67 (0, 0))) := Lib.hid (zqe hgr (fun e9 => HASE.out EB e9.symm rfl) HE_w57.out)
   obtain ⟨LL, hL⟩ : ∃ l9, l9 = L ++ [(⟨5, (20 + N), (1 + a), (1 + (1 + a) % 3), (1 + c), 0, false⟩ : Event), ⟨(IntKind.i64.wrap (6 + k)), (20 + N), 0, 0, 0, 0, false⟩] := ⟨_, rfl⟩
   have hLl : L.length + 2 = LL.length := by rw [hL, List.length_append]; rfl
   rw [hLl] at how ⊢
   have OS_x2 : Hid (Ow x2 w.heap.size 67 7 (.slice A2 LL.length cp2) (LL.map Event.cells)) := Lib.hid (by rw [hL, List.map_append, ← hL]; exact how)
   clear how hb9 hgr hL HX hbz OS_w57 HC_w57 HG_w57 HE_w57
   clear E0 E1 E2 E3 E4 E5 E6 Ef Ez
   obtain ⟨E0, E1, E2, E3, E4, E5, E6, Ef, Ez⟩ := box7_ HE_x2.out
   go_simp
   refine hK.out _ _ ⟨E0, E1, E2, E3, E4, E5, E6⟩ (fun hHeld => ?_)
   clear hK K
   refine tk_ ?_
   refine Sq.done (NoPanic.normal ?_)
   go_wp2_with fail
   go_roundw
   case rel => exact ⟨N - 1, LL, A2, cp2, by omega, by omega, by go_num, rfl, by omega, OS_x2, HC_x2, HG_x2⟩
   case measure => simp [intOf]; omega
  ·
   obtain rfl : N = 0 := by omega
   go_wp2_with fail
   obtain ⟨wo, rfl⟩ : ∃ wo : World, wo = wr := ⟨_, rfl⟩
   have OS_wo := OS_wr
   have HC_wo := HC_wr
   have HG_wo := HG_wr
   clear hgz OS_wr HC_wr HG_wr
   refine (zxd g 3 _ HC_wo.out (by first | decide | omega) (by first | decide | omega)).mono ?_
   rintro e' w151 ⟨m, m1, m2, rfl, hcn, hg⟩
   have HC_w151 := Lib.hid hcn
   have HG_w151 := Lib.hid (zqj HG_wo.out hg)
   have OS_w151 := Lib.hid (OS_wo.out.pastL hg hgw)
   clear hcn hg
   go_wp2_with fail
   have HLN := Lib.hid hLN
   go_loopw [3, 6] (fun vl vn wr => ∃ (N : Int) (L : List Event) (A : Option Addr) (cp : Nat), 0 ≤ N ∧ N ≤ 2 ∧ vn = .int .i64 N ∧ vl = .slice A L.length cp ∧ (L.length : Int) + 2 * N ≤ 135 ∧ Hid (Ow wr w.heap.size 67 7 (.slice A L.length cp) (L.map Event.cells)) ∧ Hid (Crs wr g) ∧ Hid (w.grownBy wr (some g))) (fun _ vn _ => (intOf vn).toNat)
   case atStart => exact ⟨m, L, A, cp, m1, by omega, rfl, rfl, by have := HLN.out; omega, OS_w151, HC_w151, HG_w151⟩
   case round =>
    clear OS_w151 HC_w151 HG_w151
    obtain ⟨N, L, A, cp, n3, n4, rfl, rfl, hLN, OS_wr, HC_wr, HG_wr⟩ := hrel
    have hgz := HG_wr.out.size
    by_cases hlt : 0 < N
    ·
     have hc0 := Lib.hid hgw
     go_wp2_with fail
     refine (zxd g 3 _ HC_wr.out (by first | decide | omega) (by first | decide | omega)).mono ?_
     rintro e' w51 ⟨a, a1, a2, rfl, hcn, hg⟩
     have HC_w51 := Lib.hid hcn
     have HG_w51 := Lib.hid (zqj HG_wr.out hg)
     have OS_w51 := Lib.hid (OS_wr.out.pastL hg hgw)
     clear hcn hg
     go_wp2_with fail
     refine (zxd g 900 _ HC_w51.out (by first | decide | omega) (by first | decide | omega)).mono ?_
     rintro e' w52 ⟨c, c1, c2, rfl, hcn, hg⟩
     have HC_w52 := Lib.hid hcn
     have HG_w52 := Lib.hid (zqj HG_w51.out hg)
     have OS_w52 := Lib.hid (OS_w51.out.pastL hg hgw)
     clear hcn hg
     go_wp2_with fail
     refine (zxd g 30 _ HC_w52.out (by first | decide | omega) (by first | decide | omega)).mono ?_
     rintro e' w53 ⟨f, f1, f2, rfl, hcn, hg⟩
     have HC_w53 := Lib.hid hcn
     have HG_w53 := Lib.hid (zqj HG_w52.out hg)
     have OS_w53 := Lib.hid (OS_w52.out.pastL hg hgw)
     clear hcn hg
     go_upto_region 12 with fail
     refine nm_ ?_
     intro w54 hw
     have HC_w54 : Hid (Crs w54 g) := Lib.hid (by rw [hw]; exact (HC_w53.out).alloc _)
     have HG_w54 : Hid (w.grownBy w54 (some g)) := Lib.hid (by rw [hw]; exact zjj (HG_w53.out) _)
     have OS_w54 : Hid (Ow w54 w.heap.size 67 7 (.slice A L.length cp) (L.map Event.cells)) := Lib.hid (by rw [hw]; exact (OS_w53.out).alloc _)
     obtain ⟨EB, h9E⟩ : ∃ v, v = w53.heap.size := ⟨_, rfl⟩
     have HE_w54 : Hid (w54.heap[EB]? = some (.cells #[.int .i64 9, .int .i64 (40 + N), .int .i64 (1 + a), .int .i64 0, .int .i64 (1 + c), .int .i64 f, .bool false] 67 (0, 0))) := Lib.hid (by rw [hw, h9E]; exact zxc (by first | rfl | (simp; done)))
     have HLE : Hid (w.heap.size ≤ EB) := Lib.hid (by have := HG_w53.out.size; omega)
     have HASE : Hid (∀ k, (.slice A L.length cp : Value).ownBlock = some k → k ≠ EB) := Lib.hid (fun k9 e9 => by have := (OS_w53.out.block k9 e9).2; omega)
     try rw [← h9E]
     clear hw h9E
     obtain ⟨E0, E1, E2, E3, E4, E5, E6, Ef, Ez⟩ := box7_ HE_w54.out
     go_upto_region 13 with fail
     refine nm_ ?_
     intro w55 hw
     have HC_w55 : Hid (Crs w55 g) := Lib.hid (by rw [hw]; exact (HC_w54.out).set (by have := HLE.out; omega))
     have HG_w55 : Hid (w.grownBy w55 (some g)) := Lib.hid (by rw [hw]; exact zqi (HG_w54.out) HLE.out _ _)
     have HE_w55 : Hid (w55.heap[EB]? = some (.cells #[.int .i64 9, .int .i64 (40 + N), .int .i64 (1 + a), .int .i64 (1 + (1 + a) % 3), .int .i64 (1 + c), .int .i64 f, .bool false] 67 (0, 0))) := Lib.hid (by rw [hw]; exact zqa (HE_w54.out))
     have OS_w55 : Hid (Ow w55 w.heap.size 67 7 (.slice A L.length cp) (L.map Event.cells)) := Lib.hid (by rw [hw]; exact (OS_w54.out).apart HASE.out)
     clear hw
     clear E0 E1 E2 E3 E4 E5 E6 Ef Ez
     obtain ⟨E0, E1, E2, E3, E4, E5, E6, Ef, Ez⟩ := box7_ HE_w55.out
     refine zxj (fun w' => w'.cell? ⟨EB, 0, none⟩ = some (.int .i64 9) ∧ w'.cell? ⟨EB, 1, none⟩ = some (.int .i64 (40 + N)) ∧ w'.cell? ⟨EB, 2, none⟩ = some (.int .i64 (1 + a)) ∧ w'.cell? ⟨EB, 3, none⟩ = some (.int .i64 (1 + (1 + a) % 3)) ∧ w'.cell? ⟨EB, 4, none⟩ = some (.int .i64 (1 + c)) ∧ w'.cell? ⟨EB, 5, none⟩ = some (.int .i64 f) ∧ w'.cell? ⟨EB, 6, none⟩ = some (.bool false)) [(0, some 62, false, none), (1, some 63, false, none), (2, some 64, false, none), (5, some 67, false, none), (6, some 68, false, none), (3, some 65, true, none), (4, some 66, false, none), (7, some 69, false, none), (8, some 70, true, none), (9, some 71, true, none), (10, some 3, false, none)] (by kernel_rfl) (by kernel_rfl) (by kernel_rfl) ⟨E0, E1, E2, E3, E4, E5, E6⟩ (fun hHeld => ?_)
     obtain ⟨w56, hwd⟩ : ∃ wd, w55.drew = wd := ⟨_, rfl⟩
     have HC_w56 : Hid (Crs w56 g) := Lib.hid (by rw [← hwd]; exact HC_w55.out)
     have HG_w56 : Hid (w.grownBy w56 (some g)) := Lib.hid (by rw [← hwd]; exact grown_drewL HG_w55.out)
     have HE_w56 : Hid (w56.heap[EB]? = some (.cells #[.int .i64 9, .int .i64 (40 + N), .int .i64 (1 + a), .int .i64 (1 + (1 + a) % 3), .int .i64 (1 + c), .int .i64 f, .bool false] 67 (0, 0))) := Lib.hid (by rw [← hwd]; exact zqh HE_w55.out)
     have OS_w56 : Hid (Ow w56 w.heap.size 67 7 (.slice A L.length cp) (L.map Event.cells)) := Lib.hid (by rw [← hwd]; exact OS_w55.out.drew_)
     clear E0 E1 E2 E3 E4 E5 E6 Ef Ez
     rw [hwd] at hHeld ⊢
     clear hwd
     obtain ⟨E0, E1, E2, E3, E4, E5, E6, Ef, Ez⟩ := box7_ HE_w56.out
     refine tk_ ?_
     refine Sq.step rfl (by rfl) (fun K hK => ?_)
     go_simp
     refine (zxd g 2 _ HC_w56.out (by first | decide | omega) (by first | decide | omega)).mono ?_
     rintro e' w57 ⟨k, k1, k2, rfl, hcn, hg⟩
     have HC_w57 := Lib.hid hcn
     have HG_w57 := Lib.hid (zqj HG_w56.out hg)
     have HE_w57 := Lib.hid (zqe hg (zjf (by have := HLE.out; omega)) HE_w56.out)
     have OS_w57 := Lib.hid (OS_w56.out.pastL hg hgw)
     clear hcn hg
     clear E0 E1 E2 E3 E4 E5 E6 Ef Ez
     obtain ⟨E0, E1, E2, E3, E4, E5, E6, Ef, Ez⟩ := box7_ HE_w57.out
     go_simp
     refine hK.out _ _ ⟨E0, E1, E2, E3, E4, E5, E6⟩ (fun hHeld => ?_)
     clear hK K
     refine tk_ ?_
     refine Sq.step rfl (by rfl) (fun K hK => ?_)
     go_simp
     refine zwa (fun w58 hw => ?_)
     have HC_w58 : Hid (Crs w58 g) := Lib.hid (by rw [hw]; exact (HC_w57.out).alloc _)
     have HG_w58 : Hid (w.grownBy w58 (some g)) := Lib.hid (by rw [hw]; exact zjj (HG_w57.out) _)
     have HE_w58 : Hid (w58.heap[EB]? = some (.cells #[.int .i64 9, .int .i64 (40 + N), .int .i64 (1 + a), .int .i64 (1 + (1 + a) % 3), .int .i64 (1 + c), .int .i64 f, .bool false] 67 (0, 0))) := Lib.hid (by rw [hw]; exact zqd (by have := (gz_ HE_w57.out).1; first | omega | (simp; omega)) (HE_w57.out))
     have OS_w58 : Hid (Ow w58 w.heap.size 67 7 (.slice A L.length cp) (L.map Event.cells)) := Lib.hid (by rw [hw]; exact (OS_w57.out).alloc _)
     have HX : Hid (Ow w58 w.heap.size 67 7 (.slice (some ⟨w57.heap.size, 0, none⟩) 2 2) ([(⟨9, (40 + N), (1 + a), (1 + (1 + a) % 3), (1 + c), f, false⟩ : Event), ⟨(IntKind.i64.wrap (10 + k)), (40 + N), 0, 0, 0, 0, false⟩].map Event.cells)) := Lib.hid (by rw [hw]; exact Ow.lit_ (rows := [(⟨9, (40 + N), (1 + a), (1 + (1 + a) % 3), (1 + c), f, false⟩ : Event), ⟨(IntKind.i64.wrap (10 + k)), (40 + N), 0, 0, 0, 0, false⟩].map Event.cells) (event_uni _) rfl (show (2 : Nat) ≤ maxLen by decide) rfl HG_w57.out.size)
     have hbz := HG_w58.out.size
     clear hw
     clear E0 E1 E2 E3 E4 E5 E6 Ef Ez
     obtain ⟨E0, E1, E2, E3, E4, E5, E6, Ef, Ez⟩ := box7_ HE_w58.out
     go_simp
     refine hK.out _ _ ⟨E0, E1, E2, E3, E4, E5, E6⟩ (fun hHeld => ?_)
     clear hK K
     refine tk_ ?_
     refine Sq.step rfl (by rfl) (fun K hK => ?_)
     refine of_step (ops := #[]) (E := True) rfl (step_appN rfl _ _ _ rfl w.heap.size 67 i0 _ 7 56 Try.underlying52 HI0.out HI1.out HI2.out HI3.out rfl (by decide) A cp (L.map Event.cells) L.length (by rw [List.length_map]) (by rfl) OS_w58.out (some ⟨w57.heap.size, 0, none⟩) 2 ([(⟨9, (40 + N), (1 + a), (1 + (1 + a) % 3), (1 + c), f, false⟩ : Event), ⟨(IntKind.i64.wrap (10 + k)), (40 + N), 0, 0, 0, 0, false⟩].map Event.cells) 2 rfl (by rfl) w58.heap.size HX.out.rd (by simp [Event.cells, Value.oneCell']) (by simp only [List.length_map]; have : [(⟨9, (40 + N), (1 + a), (1 + (1 + a) % 3), (1 + c), f, false⟩ : Event), ⟨(IntKind.i64.wrap (10 + k)), (40 + N), 0, 0, 0, 0, false⟩].length = 2 := rfl; omega) (by decide) hbz ?_)
     intro A2 cp2 x2 how hb9 hgr
     have HC_x2 := Lib.hid (HC_w58.out.grown hgr (fun k9 e9 => by have := (OS_w58.out.block k9 e9).1; have := hc0.out; omega))
     have HG_x2 := Lib.hid (zwh HG_w58.out OS_w58.out hgr)
     have HE_x2 : Hid (x2.heap[EB]? = some (.cells #[.int .i64 9, .int .i64 (40 + N), .int .i64 (1 + a), .int .i64 (1 + (1 + a) % 3), .int .i64 (1 + c), .int .i64 f, .bool false] 67 (0, 0))) := Lib.hid (zqe hgr (fun e9 => HASE.out EB e9.symm rfl) HE_w58.out)
     obtain ⟨LL, hL⟩ : ∃ l9, l9 = L ++ [(⟨9, (40 + N), (1 + a), (1 + (1 + a) % 3), (1 + c), f, false⟩ : Event), ⟨(IntKind.i64.wrap (10 + k)), (40 + N), 0, 0, 0, 0, false⟩] := ⟨_, rfl⟩
     have hLl : L.length + 2 = LL.length := by rw [hL, List.length_append]; rfl
     rw [hLl] at how ⊢
     have OS_x2 : Hid (Ow x2 w.heap.size 67 7 (.slice A2 LL.length cp2) (LL.map Event.cells)) := Lib.hid (by rw [hL, List.map_append, ← hL]; exact how)
     clear how hb9 hgr hL HX hbz OS_w58 HC_w58 HG_w58 HE_w58
     clear E0 E1 E2 E3 E4 E5 E6 Ef Ez
     obtain ⟨E0, E1, E2, E3, E4, E5, E6, Ef, Ez⟩ := box7_ HE_x2.out
     go_simp
     refine hK.out _ _ ⟨E0, E1, E2, E3, E4, E5, E6⟩ (fun hHeld => ?_)
     clear hK K
     refine tk_ ?_
     refine Sq.done (NoPanic.normal ?_)
     go_wp2_with fail
     go_roundw
     case rel => exact ⟨N - 1, LL, A2, cp2, by omega, by omega, by go_num, rfl, by omega, OS_x2, HC_x2, HG_x2⟩
     case measure => simp [intOf]; omega
    ·
     obtain rfl : N = 0 := by omega
     go_wp2_with fail
     go_ret
     exact ⟨L, A, cp, rfl, by omega, OS_wr.out, HC_wr.out, HG_wr.out⟩
end Go.Proofs.Ytcjbjpobpefehaa

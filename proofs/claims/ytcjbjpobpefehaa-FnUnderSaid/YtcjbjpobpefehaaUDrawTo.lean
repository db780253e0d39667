/- Draws: the book of a law. -/
import Derived.Test.YtcjbjpobpefehaaRows
import Derived.Test.YtcjbjpobpefehaaUDrawAg
namespace Go.Proofs.Ytcjbjpobpefehaa
open Go.RowKit Go.Deep
def DrewT (w : World) (e : Ending) (w' : World) : Prop := ∃ (b : Bk) (C1 C2 C3 : Option Addr) (q1 q2 q3 : Nat), e = .returned (.agg #[.int .i64 b.t, .int .i64 b.n, .int .i64 b.w, .slice C1 b.cs.length q1, .slice C2 b.hs.length q2, .slice C3 b.os.length q3]) ∧ OwB w' w.heap.size b C1 C2 C3 q1 q2 q3 ∧ LenOk b ∧ Below w.heap.size w w'
set_option maxRecDepth 100000 in
set_option maxHeartbeats 1000000 in
theorem s_DrawTotal (A : Option Addr) (n cap : Nat) (w : World) (hc : Code w w.heap.size A n cap) :
  Calls Try.prog 6 #[.slice A n cap] w (DrewT w) := by
 obtain ⟨R, hR⟩ : ∃ R, R = w.heap.size := ⟨_, rfl⟩
 have HSR := Lib.hid hR
 rw [← hR] at hc
 go_enter Try.func6, Try.ntmps6
 go_wp2_with fail
 refine zwb (fun v hw => ?_)
 rw [← hR]
 have r0 : v.heap[R]? = some (.cells #[.int .i64 0, .int .i64 0, .int .i64 0, .slice none 0 0, .slice none 0 0, .slice none 0 0] 27 (0, 0)) := by rw [hw, hR]; exact zxe (by first | rfl | (simp; done))
 have z0 : v.heap.size = R + 1 := by rw [hw, hR]; simp
 have b0 : Below R w v := by rw [hw, hR]; exact (Below.refl _ _).alloc (Nat.le_refl _) _
 clear hw hR
 refine (s_l01New A n cap _ ((hc.below b0).more (by omega))).mono ?_
 rintro e w1 ⟨rfl, hc1, hb1, z1⟩
 obtain ⟨g, hg⟩ : ∃ g, g = v.heap.size := ⟨_, rfl⟩
 rw [← hg] at hc1 hb1 z1 ⊢
 have r1 := zqi hb1 (by omega : R < g) r0
 have b1 : Below R w w1 := b0.trans (Below.mono hb1 (by omega))
 have hRg : R < g := by omega
 have hRw : g < w1.heap.size := by omega
 clear r0 b0 hb1 hc z0 z1 hg
 go_wp2_with fail
 refine (s_l21Aged g _ hc1).mono ?_
 rintro e w2 ⟨b, C1, C2, C3, q1, q2, q3, rfl, hob, hlen, hc2, hg2⟩
 have hs2 := hg2.size
 have HR_w2 := Lib.hid (zqf hg2 (zxi (by omega)) r1)
 have b2 : Below R w w2 := b1.grown hg2 (by omega) (fun k e => by cases e; omega)
 have OW_w2 := Lib.hid (hob.more (B' := R) (by omega))
 clear r1 b1 hob hc1 hc2 hg2
 go_upto_region 3 with fail
 refine nm_ ?_
 intro w3 hw
 obtain ⟨NB, hN⟩ : ∃ v, v = w2.heap.size := ⟨_, rfl⟩
 have HR_w3 := Lib.hid (show w3.heap[R]? = some (.cells #[.int .i64 0, .int .i64 0, .int .i64 0, .slice none 0 0, .slice none 0 0, .slice none 0 0] 27 (0, 0)) by rw [hw]; exact zqe (by have := (gz_ HR_w2.out).1; omega) HR_w2.out)
 have HN_w3 := Lib.hid (show w3.heap[NB]? = some (.cells #[.int .i64 b.t, .int .i64 b.n, .int .i64 b.w, .slice C1 b.cs.length q1, .slice C2 b.hs.length q2, .slice C3 b.os.length q3] 27 (0, 0)) by rw [hw, hN]; exact zxe (by first | rfl | (simp; done)))
 have OW_w3 : Hid (OwB w3 R b C1 C2 C3 q1 q2 q3) := Lib.hid (by rw [hw]; exact OW_w2.out.alloc _)
 have b3 : Below R w w3 := by rw [hw]; exact b2.alloc (by omega) _
 have HNR : R ≠ NB := by have := (gz_ HR_w2.out).1; omega
 have HRN : NB ≠ R := Ne.symm HNR
 try rw [← hN]
 clear hw hN b2
 obtain ⟨R0, R1, R2, R3, R4, R5, Rf, Rz⟩ := box6_ HR_w3.out
 obtain ⟨N0, N1, N2, N3, N4, N5, Nf, Nz⟩ := box6_ HN_w3.out
 go_wp2_with fail
 refine name_ret (fun w4 hw => ?_)
 have r3 : w4.heap[R]? = some (.cells #[.int .i64 b.t, .int .i64 b.n, .int .i64 b.w, .slice C1 b.cs.length q1, .slice C2 b.hs.length q2, .slice C3 b.os.length q3] 27 (0, 0)) := by rw [hw]; exact zqa (zqa (zqa (zqa (zqa (zqa (HR_w3.out))))))
 have o3 : OwB w4 R b C1 C2 C3 q1 q2 q3 := by rw [hw]; exact ((((((OW_w3.out).aside (HR_w3.out) (by decide) (by decide) (by decide) _).aside (zqa (HR_w3.out)) (by decide) (by decide) (by decide) _).aside (zqa (zqa (HR_w3.out))) (by decide) (by decide) (by decide) _).aside (zqa (zqa (zqa (HR_w3.out)))) (by decide) (by decide) (by decide) _).aside (zqa (zqa (zqa (zqa (HR_w3.out))))) (by decide) (by decide) (by decide) _).aside (zqa (zqa (zqa (zqa (zqa (HR_w3.out)))))) (by decide) (by decide) (by decide) _
 have b4 : Below R w w4 := by rw [hw]; exact ((((((b3.setCell (p := ⟨R, 0, none⟩) (Nat.le_refl _) _).setCell (p := ⟨R, 1, none⟩) (Nat.le_refl _) _).setCell (p := ⟨R, 2, none⟩) (Nat.le_refl _) _).setCell (p := ⟨R, 3, none⟩) (Nat.le_refl _) _).setCell (p := ⟨R, 4, none⟩) (Nat.le_refl _) _).setCell (p := ⟨R, 5, none⟩) (Nat.le_refl _) _)
 clear hw R0 R1 R2 R3 R4 R5 Rf Rz N0 N1 N2 N3 N4 N5 Nf Nz
 obtain ⟨R0, R1, R2, R3, R4, R5, -, -⟩ := box6_ r3
 refine bodyPost_ret (v := .agg #[.int .i64 b.t, .int .i64 b.n, .int .i64 b.w, .slice C1 b.cs.length q1, .slice C2 b.hs.length q2, .slice C3 b.os.length q3]) (by simp [results, Try.results6, go_sem, R0, R1, R2, R3, R4, R5]) rfl ⟨b, C1, C2, C3, q1, q2, q3, rfl, ?_, hlen, ?_⟩
 ·
  rw [← HSR.out]; exact o3
 ·
  rw [← HSR.out]; exact b4
end Go.Proofs.Ytcjbjpobpefehaa

/- A book is copied: the reference's walk. -/
import Derived.Test.YtcjbjpobpefehaaRows
import Derived.Test.YtcjbjpobpefehaaVM3
import Derived.Test.YtcjbjpobpefehaaVM1
namespace Go.Proofs.Ytcjbjpobpefehaa
open Go.RowKit Go.Deep
def Stop (p : Prop) : Prop := p
theorem Stop.go {p : Prop} (h : Stop p) : p := h
theorem Stop.on {p : Prop} (h : p) : Stop p := h
theorem info_ChanC : (Try.prog.info? 32).map (fun i => (i.zero, i.size, i.bytes)) = some (some (.agg #[.int .i64 0, .int .i64 0, .int .i64 0, .int .i64 0, .int .i64 0, .int .i64 0, .int .i64 0]), 7, 56) := by kernel_rfl
theorem info_HtlcC : (Try.prog.info? 36).map (fun i => (i.zero, i.size, i.bytes)) = some (some (.agg #[.int .i64 0, .int .i64 0, .int .i64 0, .int .i64 0, .int .i64 0, .bool false, .int .i64 0]), 7, 56) := by kernel_rfl
theorem info_CircleC : (Try.prog.info? 38).map (fun i => (i.zero, i.size, i.bytes)) = some (some (.agg #[.int .i64 0, .int .i64 0, .int .i64 0, .int .i64 0, .int .i64 0]), 5, 40) := by kernel_rfl
theorem chan_ones (l : List Chan) : ∀ u ∈ (l.map Chan.cells).flatten, u.oneCell' = true := by
 intro u hu
 obtain ⟨r, hr, hu⟩ := List.mem_flatten.1 hu
 obtain ⟨x, _, rfl⟩ := List.mem_map.1 hr
 simp only [Chan.cells, List.mem_cons, List.not_mem_nil, or_false] at hu
 rcases hu with rfl | rfl | rfl | rfl | rfl | rfl | rfl <;> rfl
theorem htlc_ones (l : List Htlc) : ∀ u ∈ (l.map Htlc.cells).flatten, u.oneCell' = true := by
 intro u hu
 obtain ⟨r, hr, hu⟩ := List.mem_flatten.1 hu
 obtain ⟨x, _, rfl⟩ := List.mem_map.1 hr
 simp only [Htlc.cells, List.mem_cons, List.not_mem_nil, or_false] at hu
 rcases hu with rfl | rfl | rfl | rfl | rfl | rfl | rfl <;> rfl
theorem circle_ones (l : List Circle) : ∀ u ∈ (l.map Circle.cells).flatten, u.oneCell' = true := by
 intro u hu
 obtain ⟨r, hr, hu⟩ := List.mem_flatten.1 hu
 obtain ⟨x, _, rfl⟩ := List.mem_map.1 hr
 simp only [Circle.cells, List.mem_cons, List.not_mem_nil, or_false] at hu
 rcases hu with rfl | rfl | rfl | rfl | rfl <;> rfl
def CopyP (w : World) (b : Bk) (e : Ending) (w' : World) : Prop :=
 ∃ (C1 C2 C3 : Option Addr) (q1 q2 q3 : Nat), e = .returned (.agg #[.int .i64 b.t, .int .i64 b.n, .int .i64 b.w, .slice C1 b.cs.length q1, .slice C2 b.hs.length q2, .slice C3 b.os.length q3]) ∧ OwB w' w.heap.size b C1 C2 C3 q1 q2 q3 ∧ Below w.heap.size w w'
set_option maxRecDepth 100000 in
set_option maxHeartbeats 4000000 in
theorem s_l07Copy (b : Bk) (A1 A2 A3 : Option Addr) (p1 p2 p3 : Nat) (w : World) (l1 : b.cs.length ≤ 1048576) (l2 : b.hs.length ≤ 1048576) (l3 : b.os.length ≤ 1048576) (hr : RdBook w w.heap.size A1 b.cs A2 b.hs A3 b.os) :
  Calls Try.prog 61 #[.agg #[.int .i64 b.t, .int .i64 b.n, .int .i64 b.w, .slice A1 b.cs.length p1, .slice A2 b.hs.length p2, .slice A3 b.os.length p3]] w (CopyP w b) := by
 obtain ⟨i0, hi, hz0, hz1, hz2⟩ := info_parts info_ChanC
 obtain ⟨j0, hj, hy0, hy1, hy2⟩ := info_parts info_HtlcC
 obtain ⟨k0, hk, hx0, hx1, hx2⟩ := info_parts info_CircleC
 have HI0 := Lib.hid hi
 have HI1 := Lib.hid hz0
 have HI2 := Lib.hid hz1
 have HI3 := Lib.hid hz2
 have HJ0 := Lib.hid hj
 have HJ1 := Lib.hid hy0
 have HJ2 := Lib.hid hy1
 have HJ3 := Lib.hid hy2
 have HK0 := Lib.hid hk
 have HK1 := Lib.hid hx0
 have HK2 := Lib.hid hx1
 have HK3 := Lib.hid hx2
 have HR := Lib.hid hr
 clear hi hz0 hz1 hz2 hj hy0 hy1 hy2 hk hx0 hx1 hx2 hr
 go_enter Try.func61, Try.ntmps61
 go_wp2_with (at_builtin; refine Stop.go ?_)
 refine Stop.on ?_
 refine wpList_appN rfl _ _ _ rfl w.heap.size 32 i0 _ 7 56 Try.underlying23 HI0.out HI1.out HI2.out HI3.out rfl (by decide) _ _ [] 0 rfl (by rfl) (by first | exact Ow.empty_ rfl (by first | omega | (simp; done) | (simp; omega)) | exact Ow.empty_ (by simp) (by first | omega | (simp; done) | (simp; omega))) A1 p1 (b.cs.map Chan.cells) b.cs.length (by rw [List.length_map]) (by rfl) w.heap.size (HR.out.c.below (bl_)) (chan_ones b.cs) (by rw [List.length_map]; simp only [List.length_nil]; omega) (by decide) (by first | omega | (simp; done) | (simp; omega)) ?_
 intro C1 q1 w1 how1 hb1 hg1
 simp only [Nat.zero_add, List.nil_append] at how1 ⊢
 have kX : Hid (w1.heap[w.heap.size]? = some (.cells #[.int .i64 b.t, .int .i64 b.n, .int .i64 b.w, .slice A1 b.cs.length p1, .slice A2 b.hs.length p2, .slice A3 b.os.length p3] 27 (0, 0))) := Lib.hid (zqe hg1 (by first | (simp [Value.ownBlock]; done) | (simp [Value.ownBlock]; omega)) (zqd (by simp; omega) (zqd (by simp) (zxc rfl))))
 have kY : Hid (w1.heap[w.heap.size + 1]? = some (.cells #[.int .i64 0, .int .i64 0, .int .i64 0, .slice none 0 0, .slice none 0 0, .slice none 0 0] 27 (0, 0))) := Lib.hid (zqe hg1 (by first | (simp [Value.ownBlock]; done) | (simp [Value.ownBlock]; omega)) (zqd (by simp) (zxc (by simp))))
 have kB : Hid (Below w.heap.size w w1) := Lib.hid (bl_)
 have kO1 := Lib.hid how1
 clear how1 hb1 hg1
 obtain ⟨_, x0, x1, x2, x3, x4, x5, xf, xz⟩ := own6 (Below.refl _ _) (gz_ kX.out).1 kX.out
 obtain ⟨_, y0, y1, y2, y3, y4, y5, yf, _⟩ := own6 (Below.refl _ _) (gz_ kY.out).1 kY.out
 go_wp2_with (at_builtin; refine Stop.go ?_)
 refine Stop.on ?_
 clear x0 x1 x2 x3 x4 x5 xf y0 y1 y2 y3 y4 y5 yf
 obtain ⟨v1, hv1⟩ : ∃ v, w1.setCell ⟨w.heap.size, 3, none⟩ (.slice C1 b.cs.length q1) = v := ⟨_, rfl⟩
 have hX1 : Hid (v1.heap[w.heap.size]? = some (.cells #[.int .i64 b.t, .int .i64 b.n, .int .i64 b.w, .slice C1 b.cs.length q1, .slice A2 b.hs.length p2, .slice A3 b.os.length p3] 27 (0, 0))) := Lib.hid (by rw [← hv1]; exact zqa kX.out)
 have hY1 : Hid (v1.heap[w.heap.size + 1]? = some (.cells #[.int .i64 0, .int .i64 0, .int .i64 0, .slice none 0 0, .slice none 0 0, .slice none 0 0] 27 (0, 0))) := Lib.hid (by rw [← hv1]; exact heap_far (by simp) kY.out)
 have hB1 : Hid (Below w.heap.size w v1) := Lib.hid (by rw [← hv1]; exact kB.out.setCell (Nat.le_refl _) _)
 have hO1 := Lib.hid (show Ow v1 w.heap.size 32 7 (.slice C1 b.cs.length q1) (b.cs.map Chan.cells) by rw [← hv1]; exact kO1.out.aside kX.out (by decide) _)
 have hs1 : w1.heap.size = v1.heap.size := by rw [← hv1]; simp
 rw [hv1]
 try rw [hs1]
 clear hs1 hv1 kX kY kB xz kO1
 obtain ⟨_, x0, x1, x2, x3, x4, x5, xf, xz⟩ := own6 (Below.refl _ _) (gz_ hX1.out).1 hX1.out
 have yz := (gz_ hY1.out).1
 refine wpList_appN rfl _ _ _ rfl w.heap.size 36 j0 _ 7 56 Try.underlying24 HJ0.out HJ1.out HJ2.out HJ3.out rfl (by decide) _ _ [] 0 rfl (by rfl) (by first | exact Ow.empty_ rfl (by first | omega | (simp; done) | (simp; omega)) | exact Ow.empty_ (by simp) (by first | omega | (simp; done) | (simp; omega))) A2 p2 (b.hs.map Htlc.cells) b.hs.length (by rw [List.length_map]) (by rfl) w.heap.size (HR.out.h.below (bl_)) (htlc_ones b.hs) (by rw [List.length_map]; simp only [List.length_nil]; omega) (by decide) (by first | omega | (simp; done) | (simp; omega)) ?_
 intro C2 q2 w2 how2 hb2 hg2
 simp only [Nat.zero_add, List.nil_append] at how2 ⊢
 have kX : Hid (w2.heap[w.heap.size]? = some (.cells #[.int .i64 b.t, .int .i64 b.n, .int .i64 b.w, .slice C1 b.cs.length q1, .slice A2 b.hs.length p2, .slice A3 b.os.length p3] 27 (0, 0))) := Lib.hid (zqe hg2 (by first | (simp [Value.ownBlock]; done) | (simp [Value.ownBlock]; omega)) (zqd xz hX1.out))
 have kY : Hid (w2.heap[w.heap.size + 1]? = some (.cells #[.int .i64 0, .int .i64 0, .int .i64 0, .slice none 0 0, .slice none 0 0, .slice none 0 0] 27 (0, 0))) := Lib.hid (zqe hg2 (by first | (simp [Value.ownBlock]; done) | (simp [Value.ownBlock]; omega)) (zqd yz hY1.out))
 have kB : Hid (Below w.heap.size w w2) := Lib.hid (bl_)
 have kO1 := Lib.hid ((hO1.out.alloc _).grown hg2 (Or.inr (fun e => by have h9 := (hO1.out.block v1.heap.size (by first | exact e | exact e.symm)).2; omega)))
 clear xf xz yz x0 x1 x2 x3 x4 x5 hO1 hX1 hY1 hB1
 have kO2 := Lib.hid how2
 clear how2 hb2 hg2
 obtain ⟨_, x0, x1, x2, x3, x4, x5, xf, xz⟩ := own6 (Below.refl _ _) (gz_ kX.out).1 kX.out
 obtain ⟨_, y0, y1, y2, y3, y4, y5, yf, _⟩ := own6 (Below.refl _ _) (gz_ kY.out).1 kY.out
 go_wp2_with (at_builtin; refine Stop.go ?_)
 refine Stop.on ?_
 clear x0 x1 x2 x3 x4 x5 xf y0 y1 y2 y3 y4 y5 yf
 obtain ⟨v2, hv2⟩ : ∃ v, w2.setCell ⟨w.heap.size, 4, none⟩ (.slice C2 b.hs.length q2) = v := ⟨_, rfl⟩
 have hX2 : Hid (v2.heap[w.heap.size]? = some (.cells #[.int .i64 b.t, .int .i64 b.n, .int .i64 b.w, .slice C1 b.cs.length q1, .slice C2 b.hs.length q2, .slice A3 b.os.length p3] 27 (0, 0))) := Lib.hid (by rw [← hv2]; exact zqa kX.out)
 have hY2 : Hid (v2.heap[w.heap.size + 1]? = some (.cells #[.int .i64 0, .int .i64 0, .int .i64 0, .slice none 0 0, .slice none 0 0, .slice none 0 0] 27 (0, 0))) := Lib.hid (by rw [← hv2]; exact heap_far (by simp) kY.out)
 have hB2 : Hid (Below w.heap.size w v2) := Lib.hid (by rw [← hv2]; exact kB.out.setCell (Nat.le_refl _) _)
 have hO1 := Lib.hid (show Ow v2 w.heap.size 32 7 (.slice C1 b.cs.length q1) (b.cs.map Chan.cells) by rw [← hv2]; exact kO1.out.aside kX.out (by decide) _)
 have hO2 := Lib.hid (show Ow v2 w.heap.size 36 7 (.slice C2 b.hs.length q2) (b.hs.map Htlc.cells) by rw [← hv2]; exact kO2.out.aside kX.out (by decide) _)
 have hs2 : w2.heap.size = v2.heap.size := by rw [← hv2]; simp
 rw [hv2]
 try rw [hs2]
 clear hs2 hv2 kX kY kB xz kO1 kO2
 obtain ⟨_, x0, x1, x2, x3, x4, x5, xf, xz⟩ := own6 (Below.refl _ _) (gz_ hX2.out).1 hX2.out
 have yz := (gz_ hY2.out).1
 refine wpList_appN rfl _ _ _ rfl w.heap.size 38 k0 _ 5 40 Try.underlying25 HK0.out HK1.out HK2.out HK3.out rfl (by decide) _ _ [] 0 rfl (by rfl) (by first | exact Ow.empty_ rfl (by first | omega | (simp; done) | (simp; omega)) | exact Ow.empty_ (by simp) (by first | omega | (simp; done) | (simp; omega))) A3 p3 (b.os.map Circle.cells) b.os.length (by rw [List.length_map]) (by rfl) w.heap.size (HR.out.o.below (bl_)) (circle_ones b.os) (by rw [List.length_map]; simp only [List.length_nil]; omega) (by decide) (by first | omega | (simp; done) | (simp; omega)) ?_
 intro C3 q3 w3 how3 hb3 hg3
 simp only [Nat.zero_add, List.nil_append] at how3 ⊢
 have kX : Hid (w3.heap[w.heap.size]? = some (.cells #[.int .i64 b.t, .int .i64 b.n, .int .i64 b.w, .slice C1 b.cs.length q1, .slice C2 b.hs.length q2, .slice A3 b.os.length p3] 27 (0, 0))) := Lib.hid (zqe hg3 (by first | (simp [Value.ownBlock]; done) | (simp [Value.ownBlock]; omega)) (zqd xz hX2.out))
 have kY : Hid (w3.heap[w.heap.size + 1]? = some (.cells #[.int .i64 0, .int .i64 0, .int .i64 0, .slice none 0 0, .slice none 0 0, .slice none 0 0] 27 (0, 0))) := Lib.hid (zqe hg3 (by first | (simp [Value.ownBlock]; done) | (simp [Value.ownBlock]; omega)) (zqd yz hY2.out))
 have kB : Hid (Below w.heap.size w w3) := Lib.hid (bl_)
 have kO1 := Lib.hid ((hO1.out.alloc _).grown hg3 (Or.inr (fun e => by have h9 := (hO1.out.block v2.heap.size (by first | exact e | exact e.symm)).2; omega)))
 have kO2 := Lib.hid ((hO2.out.alloc _).grown hg3 (Or.inr (fun e => by have h9 := (hO2.out.block v2.heap.size (by first | exact e | exact e.symm)).2; omega)))
 clear xf xz yz x0 x1 x2 x3 x4 x5 hO1 hO2 hX2 hY2 hB2
 have kO3 := Lib.hid how3
 clear how3 hb3 hg3
 obtain ⟨_, x0, x1, x2, x3, x4, x5, xf, xz⟩ := own6 (Below.refl _ _) (gz_ kX.out).1 kX.out
 obtain ⟨_, y0, y1, y2, y3, y4, y5, yf, _⟩ := own6 (Below.refl _ _) (gz_ kY.out).1 kY.out
 go_wp2_with (at_builtin; refine Stop.go ?_)
 clear x0 x1 x2 x3 x4 x5 xf y0 y1 y2 y3 y4 y5 yf
 obtain ⟨v3, hv3⟩ : ∃ v, w3.setCell ⟨w.heap.size, 5, none⟩ (.slice C3 b.os.length q3) = v := ⟨_, rfl⟩
 have hX3 : Hid (v3.heap[w.heap.size]? = some (.cells #[.int .i64 b.t, .int .i64 b.n, .int .i64 b.w, .slice C1 b.cs.length q1, .slice C2 b.hs.length q2, .slice C3 b.os.length q3] 27 (0, 0))) := Lib.hid (by rw [← hv3]; exact zqa kX.out)
 have hY3 : Hid (v3.heap[w.heap.size + 1]? = some (.cells #[.int .i64 0, .int .i64 0, .int .i64 0, .slice none 0 0, .slice none 0 0, .slice none 0 0] 27 (0, 0))) := Lib.hid (by rw [← hv3]; exact heap_far (by simp) kY.out)
 have hB3 : Hid (Below w.heap.size w v3) := Lib.hid (by rw [← hv3]; exact kB.out.setCell (Nat.le_refl _) _)
 have hO1 := Lib.hid (show Ow v3 w.heap.size 32 7 (.slice C1 b.cs.length q1) (b.cs.map Chan.cells) by rw [← hv3]; exact kO1.out.aside kX.out (by decide) _)
 have hO2 := Lib.hid (show Ow v3 w.heap.size 36 7 (.slice C2 b.hs.length q2) (b.hs.map Htlc.cells) by rw [← hv3]; exact kO2.out.aside kX.out (by decide) _)
 have hO3 := Lib.hid (show Ow v3 w.heap.size 38 5 (.slice C3 b.os.length q3) (b.os.map Circle.cells) by rw [← hv3]; exact kO3.out.aside kX.out (by decide) _)
 have hs3 : w3.heap.size = v3.heap.size := by rw [← hv3]; simp
 rw [hv3]
 try rw [hs3]
 clear hs3 hv3 kX kY kB xz kO1 kO2 kO3
 obtain ⟨_, x0, x1, x2, x3, x4, x5, xf, xz⟩ := own6 (Below.refl _ _) (gz_ hX3.out).1 hX3.out
 have yz := (gz_ hY3.out).1
 obtain ⟨vr, hvr⟩ : ∃ v, (((((v3.setCell ⟨w.heap.size + 1, 0, none⟩ (.int .i64 b.t)).setCell ⟨w.heap.size + 1, 1, none⟩ (.int .i64 b.n)).setCell ⟨w.heap.size + 1, 2, none⟩ (.int .i64 b.w)).setCell ⟨w.heap.size + 1, 3, none⟩ (.slice C1 b.cs.length q1)).setCell ⟨w.heap.size + 1, 4, none⟩ (.slice C2 b.hs.length q2)).setCell ⟨w.heap.size + 1, 5, none⟩ (.slice C3 b.os.length q3) = v := ⟨_, rfl⟩
 have hR : Hid (vr.heap[w.heap.size + 1]? = some (.cells #[.int .i64 b.t, .int .i64 b.n, .int .i64 b.w, .slice C1 b.cs.length q1, .slice C2 b.hs.length q2, .slice C3 b.os.length q3] 27 (0, 0))) := Lib.hid (by rw [← hvr]; exact zqa (zqa (zqa (zqa (zqa (zqa hY3.out))))))
 have hG : Hid (v3.grownBy vr (some (w.heap.size + 1))) := Lib.hid (by rw [← hvr]; exact zqg (zqg (zqg (zqg (zqg (zqg (World.grownBy.refl v3 (some (w.heap.size + 1))) _ _) _ _) _ _) _ _) _ _) _ _)
 rw [hvr]
 clear hvr x0 x1 x2 x3 x4 x5 xf xz yz
 obtain ⟨_, y0, y1, y2, y3, y4, y5, yf, _⟩ := own6 (Below.refl _ _) (gz_ hR.out).1 hR.out
 refine bodyPost_ret (v := .agg #[.int .i64 b.t, .int .i64 b.n, .int .i64 b.w, .slice C1 b.cs.length q1, .slice C2 b.hs.length q2, .slice C3 b.os.length q3]) (by simp [results, Try.results61, go_sem, *]) rfl ?_
 refine ⟨_, _, _, _, _, _, rfl, ⟨hO1.out.grown hG.out (Or.inr (hO1.out.ne_ hY3.out (by decide)).symm), hO2.out.grown hG.out (Or.inr (hO2.out.ne_ hY3.out (by decide)).symm), hO3.out.grown hG.out (Or.inr (hO3.out.ne_ hY3.out (by decide)).symm)⟩, hB3.out.grown hG.out (by have := hB3.out.size; omega) (fun k e => by injection e with e; omega)⟩
end Go.Proofs.Ytcjbjpobpefehaa

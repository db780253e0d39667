/- The program's PurseWhen returns what the reference's returns, for all arguments; no condition. -/
import Derived.Test.YtkgnipaponfbkaaRows
import Derived.Test.YtkgnipaponfbkaaPurseWs
import Derived.Deep.RegionHeld3
namespace Go.Proofs.Ytkgnipaponfbkaa
open Go.ChangeShapes Go.WideShapes Go.ChangeAt Go.RowKit

set_option maxHeartbeats 2000000 in
theorem l_FnExactPurseWhen (x0 x1 : Int) (l : List Coin) (A : Option Addr) (cap : Nat) (at_ : Int) (n : Int) (w : World) (hm : l.length ≤ maxLen) (_hat_ : (Lit.int .i64 at_).wf = true) (_hn : (Lit.int .i64 n).wf = true) (hr : Rd w w.heap.size 2 A (l.map Coin.cells)) :
    Calls Try.prog 11 #[.agg #[.int .i64 x0, .int .i64 x1, .slice A l.length cap], .int .i64 at_, .int .i64 n] w fun e w' => e = .returned (.bool true) ∧ Below w.heap.size w w' := by
  have HR := Lib.hid hr
  clear hr
  have HM := Lib.hid hm
  clear hm
  by_cases hl : l.length ≤ 1048576
  · go_enter Try.func11, Try.ntmps11
    go_wp2_with fail
    refine (l_szPurse_ok _ _ _ _ _ _ _ (by omega) (by omega)).mono ?_
    rintro e w1 ⟨rfl, hb1⟩
    have z1 := hb1.size
    try simp at z1
    obtain ⟨kah, ka0, ka1, ka2, kaf, kaz⟩ := own3 (g := w.heap.size) hb1 (by first | omega | (simp; omega) | (simp; done)) (by (repeat' first | assumption | (refine heap_at ?_; (simp; done)) | refine heap_drew ?_ | refine heap_drewN ?_ | (refine heap_past ?_ ?_ <;> try (simp; done)) | (refine heap_far ?_ ?_ <;> try (simp; done))))
    go_wp2_with fail
    refine (l_toPurse _ _ l _ _ _ hl ((HR.out.below (by (repeat' first | exact Below.refl _ _ | assumption | refine Below.setCell ?_ (by first | omega | (simp; omega) | (simp; done)) _ | refine Below.alloc ?_ (by first | omega | (simp; omega) | (simp; done)) _ | refine Below.drew ?_ | refine below_drewN ?_ _ | refine Below.trans ?_ (Below.mono (by assumption) (by first | omega | (simp; omega) | (simp; done)))))).more (by omega))).mono ?_
    rintro e w2 ⟨rfl, how2, hb2⟩
    have z2 := hb2.size
    have HO2 := Lib.hid how2.rd
    clear how2
    obtain ⟨kbh, kb0, kb1, kb2, kbf, kbz⟩ := own3 (g := w.heap.size) hb2 (by first | omega | (simp; omega) | (simp; done)) (by (repeat' first | assumption | (refine heap_at ?_; (simp; done)) | refine heap_drew ?_ | refine heap_drewN ?_ | (refine heap_past ?_ ?_ <;> try (simp; done)) | (refine heap_far ?_ ?_ <;> try (simp; done))))
    clear kah ka0 ka1 ka2 kaf kaz
    go_wp2_with fail
    refine (s_PurseWhen _ _ at_ n l _ _ _ hl HO2.out).mono ?_
    rintro e w3 ⟨rfl, hb3⟩
    have z3 := hb3.size
    try simp at z3
    obtain ⟨kch, kc0, kc1, kc2, kcf, kcz⟩ := own3 (g := w.heap.size) hb3 (by first | omega | (simp; omega) | (simp; done)) (by (repeat' first | assumption | (refine heap_at ?_; (simp; done)) | refine heap_drew ?_ | refine heap_drewN ?_ | (refine heap_past ?_ ?_ <;> try (simp; done)) | (refine heap_far ?_ ?_ <;> try (simp; done))))
    clear kbh kb0 kb1 kb2 kbf kbz
    go_wp2_with fail
    refine (l_toPurse _ _ l _ _ _ hl ((HR.out.below (by (repeat' first | exact Below.refl _ _ | assumption | refine Below.setCell ?_ (by first | omega | (simp; omega) | (simp; done)) _ | refine Below.alloc ?_ (by first | omega | (simp; omega) | (simp; done)) _ | refine Below.drew ?_ | refine below_drewN ?_ _ | refine Below.trans ?_ (Below.mono (by assumption) (by first | omega | (simp; omega) | (simp; done)))))).more (by omega))).mono ?_
    rintro e w4 ⟨rfl, how4, hb4⟩
    have z4 := hb4.size
    have HO4 := Lib.hid how4.rd
    clear how4
    obtain ⟨kdh, kd0, kd1, kd2, kdf, kdz⟩ := own3 (g := w.heap.size) hb4 (by first | omega | (simp; omega) | (simp; done)) (by (repeat' first | assumption | (refine heap_at ?_; (simp; done)) | refine heap_drew ?_ | refine heap_drewN ?_ | (refine heap_past ?_ ?_ <;> try (simp; done)) | (refine heap_far ?_ ?_ <;> try (simp; done))))
    clear kch kc0 kc1 kc2 kcf kcz
    go_wp2_with fail
    refine (i_PurseWhen _ _ at_ n l _ _ _ hl (wf_i64_le _hat_) ((HO4.out.below (by (repeat' first | exact Below.refl _ _ | assumption | refine Below.setCell ?_ (by first | omega | (simp; omega) | (simp; done)) _ | refine Below.alloc ?_ (by first | omega | (simp; omega) | (simp; done)) _ | refine Below.drew ?_ | refine below_drewN ?_ _ | refine Below.trans ?_ (Below.mono (by assumption) (by first | omega | (simp; omega) | (simp; done)))))).more (by first |omega | (simp; omega) | (simp; done)))).mono ?_
    rintro e w5 ⟨rfl, hb5⟩
    have z5 := hb5.size
    try simp at z5
    obtain ⟨keh, ke0, ke1, ke2, kef, kez⟩ := own3 (g := w.heap.size) hb5 (by first | omega | (simp; omega) | (simp; done)) (by (repeat' first | assumption | (refine heap_at ?_; (simp; done)) | refine heap_drew ?_ | refine heap_drewN ?_ | (refine heap_past ?_ ?_ <;> try (simp; done)) | (refine heap_far ?_ ?_ <;> try (simp; done))))
    obtain ⟨jeh, je0, je1, je2, jef, jez⟩ := own3 (g := w4.heap.size) hb5 (by first | omega | (simp; omega) | (simp; done)) (by (repeat' first | assumption | (refine heap_at ?_; (simp; done)) | refine heap_drew ?_ | refine heap_drewN ?_ | (refine heap_past ?_ ?_ <;> try (simp; done)) | (refine heap_far ?_ ?_ <;> try (simp; done))))
    clear kdh kd0 kd1 kd2 kdf kdz
    go_wp2_with fail
    go_region_held3 (fun w' => w'.cell? ⟨w4.heap.size, 0, none⟩ = some (.int .i64 x0) ∧ w'.cell? ⟨w4.heap.size, 1, none⟩ = some (.int .i64 x1) ∧ w'.cell? ⟨w4.heap.size, 2, none⟩ = some (.slice (some ⟨w3.heap.size + 3, 0, none⟩) l.length l.length) ∧ w'.cell? ⟨w.heap.size, 0, none⟩ = some (.int .i64 x0) ∧ w'.cell? ⟨w.heap.size, 1, none⟩ = some (.int .i64 x1) ∧ w'.cell? ⟨w.heap.size, 2, none⟩ = some (.slice A l.length cap)) (first | exact ⟨je0, je1, je2, ke0, ke1, ke2⟩ | exact ⟨jf0, jf1, jf2, kf0, kf1, kf2⟩ | exact ⟨jg0, jg1, jg2, kg0, kg1, kg2⟩)
      (first | (go_at_call 17; refine (l_toPurse _ _ l _ _ _ hl ((HR.out.below (by (repeat' first | exact Below.refl _ _ | assumption | refine Below.setCell ?_ (by first | omega | (simp; omega) | (simp; done)) _ | refine Below.alloc ?_ (by first | omega | (simp; omega) | (simp; done)) _ | refine Below.drew ?_ | refine below_drewN ?_ _ | refine Below.trans ?_ (Below.mono (by assumption) (by first | omega | (simp; omega) | (simp; done)))))).more (by first | omega | (simp; omega)))).mono ?_; rintro e w6 ⟨rfl, how6, hb6⟩; have z6 := hb6.size; (try simp at z6); have HO6 := Lib.hid how6.rd; clear how6; obtain ⟨kfh, kf0, kf1, kf2, kff, kfz⟩ := own3 (g := w.heap.size) hb6 (by first | omega | (simp; omega) | (simp; done)) (by (repeat' first | assumption | (refine heap_at ?_; (simp; done)) | refine heap_drew ?_ | refine heap_drewN ?_ | (refine heap_past ?_ ?_ <;> try (simp; done)) | (refine heap_far ?_ ?_ <;> try (simp; done)))); obtain ⟨jfh, jf0, jf1, jf2, jff, jfz⟩ := own3 (g := w4.heap.size) hb6 (by first | omega | (simp; omega) | (simp; done)) (by (repeat' first | assumption | (refine heap_at ?_; (simp; done)) | refine heap_drew ?_ | refine heap_drewN ?_ | (refine heap_past ?_ ?_ <;> try (simp; done)) | (refine heap_far ?_ ?_ <;> try (simp; done)))); clear keh ke0 ke1 ke2 kef kez jeh je0 je1 je2 jef jez)
             | (go_at_call 19; refine (l_eqPurse _ _ l _ _ _ _ _ hl ((HO4.out.below (by (repeat' first | exact Below.refl _ _ | assumption | refine Below.setCell ?_ (by first | omega | (simp; omega) | (simp; done)) _ | refine Below.alloc ?_ (by first | omega | (simp; omega) | (simp; done)) _ | refine Below.drew ?_ | refine below_drewN ?_ _ | refine Below.trans ?_ (Below.mono (by assumption) (by first | omega | (simp; omega) | (simp; done)))))).more (by first | omega | (simp; omega))) ((HO6.out.below (by (repeat' first | exact Below.refl _ _ | assumption | refine Below.setCell ?_ (by first | omega | (simp; omega) | (simp; done)) _ | refine Below.alloc ?_ (by first | omega | (simp; omega) | (simp; done)) _ | refine Below.drew ?_ | refine below_drewN ?_ _ | refine Below.trans ?_ (Below.mono (by assumption) (by first | omega | (simp; omega) | (simp; done)))))).more (by first | omega | (simp; omega)))).mono ?_; rintro e w7 ⟨rfl, hb7⟩; have z7 := hb7.size; (try simp at z7); obtain ⟨kgh, kg0, kg1, kg2, kgf, kgz⟩ := own3 (g := w.heap.size) hb7 (by first | omega | (simp; omega) | (simp; done)) (by (repeat' first | assumption | (refine heap_at ?_; (simp; done)) | refine heap_drew ?_ | refine heap_drewN ?_ | (refine heap_past ?_ ?_ <;> try (simp; done)) | (refine heap_far ?_ ?_ <;> try (simp; done)))); obtain ⟨jgh, jg0, jg1, jg2, jgf, jgz⟩ := own3 (g := w4.heap.size) hb7 (by first | omega | (simp; omega) | (simp; done)) (by (repeat' first | assumption | (refine heap_at ?_; (simp; done)) | refine heap_drew ?_ | refine heap_drewN ?_ | (refine heap_past ?_ ?_ <;> try (simp; done)) | (refine heap_far ?_ ?_ <;> try (simp; done)))); clear kfh kf0 kf1 kf2 kff kfz jfh jf0 jf1 jf2 jff jfz))
    go_wp2_with fail
    go_ret
    refine ⟨rfl, ?_⟩
    (repeat' first | exact Below.refl _ _ | assumption | refine Below.setCell ?_ (by first | omega | (simp; omega) | (simp; done)) _ | refine Below.alloc ?_ (by first | omega | (simp; omega) | (simp; done)) _ | refine Below.drew ?_ | refine below_drewN ?_ _ | refine Below.trans ?_ (Below.mono (by assumption) (by first | omega | (simp; omega) | (simp; done))))
  · have hl' : (1048576 : Int) < (l.length : Int) := by omega
    go_enter Try.func11, Try.ntmps11
    go_wp2_with fail
    refine (l_szPurse_no _ _ _ _ _ _ _ (by omega) HM.out hl').mono ?_
    rintro e w1 ⟨rfl, hb1⟩
    have z1 := hb1.size
    try simp at z1
    go_wp2_with fail
    go_ret
    refine ⟨rfl, ?_⟩
    (repeat' first | exact Below.refl _ _ | assumption | refine Below.setCell ?_ (by first | omega | (simp; omega) | (simp; done)) _ | refine Below.alloc ?_ (by first | omega | (simp; omega) | (simp; done)) _ | refine Below.drew ?_ | refine below_drewN ?_ _ | refine Below.trans ?_ (Below.mono (by assumption) (by first | omega | (simp; omega) | (simp; done))))
theorem FnExactPurseWhen_own : ownKnob Try.prog.godebug = none := by kernel_rfl
theorem FnExactPurseWhen_laidOut : laidOutB Try.prog = true := by kernel_rfl
set_option maxRecDepth 100000 in
theorem FnExactPurseWhen_lifted (os : Os) (started : os.Started) (H : Type) (enc : TypeId × Value → H) :
    ReturnsInHanded {} Try.checked os 11 .any (Rows.fnExactPurseWhenSpec.pre6 enc Try.prog Try.f11 Rows.fnExactPurseWhenRow.domain false) (Rows.fnExactPurseWhenSpec.post enc Try.prog Try.f11 false true false false) := by
  refine returnsInHanded_of_change (C := Try.checked) FnExactPurseWhen_own started (by kernel_rfl) Try.func11
    (ChangeSpec.witness6 (enc := enc) (C := Try.checked) false ⟨#[], #[.agg #[.int .i64 0, .int .i64 0, .slice none 0 0], .int .i64 0, .int .i64 0], []⟩ 8 (by kernel_rfl) (by kernel_rfl) (by kernel_rfl) (by kernel_rfl)) ?_
  intro W base args ds gs before hval0 hW hcnd _
  have hval : ∀ (j : Nat) t v, Try.f11.params[j]? = some t → args[j]? = some v → Value.okWide Try.prog W .any base t v := hval0
  have hW' := hW
  obtain ⟨p, q, hA0, hV, rfl, hfz, hnd⟩ := hW
  have hA : DataW.TrodAll enc Try.prog W 0 (fun _ => true) true Try.f11.params.toList args.toList ds p := hA0
  rw [Try.params11] at hA hval
  obtain ⟨v0, vs0, d0, ds0, p0, q0, hargs, rfl, rfl, h0, r0⟩ := trodAll_cons hA
  obtain ⟨v1, vs1, d1, ds1, p1, q1, rfl, rfl, rfl, h1, r1⟩ := trodAll_cons r0
  obtain ⟨v2, vs2, d2, ds2, p2, q2, rfl, rfl, rfl, h2, r2⟩ := trodAll_cons r1
  obtain ⟨rfl, rfl, rfl⟩ := trodAll_nil r2
  obtain rfl : args = #[v0, v1, v2] := by cases args; simp_all
  obtain ⟨c0_0, c0_1, c0_2, y0_0, y0_1, y0_2, m0, rfl, _, _, hy0_0, hy0_1, hy0_2⟩ := Go.Joins.open_agg3 Try.underlying24 (by kernel_rfl) (by kernel_rfl) (hval 0 24 v0 rfl rfl) h0
  obtain ⟨a0_0, e0_0, _, _⟩ := DataW.trod_int Try.underlying3 hy0_0
  simp only [List.cons.injEq, and_true] at e0_0
  subst e0_0
  obtain ⟨a0_1, e0_1, _, _⟩ := DataW.trod_int Try.underlying3 hy0_1
  simp only [List.cons.injEq, and_true] at e0_1
  subst e0_1
  obtain ⟨A0, len0, cap0, rows0, rfl, hlen0, hflat0, hrd0, hlc0, hcm0⟩ := rd_of_trod' (n := 4) (ks := [true, true]) Try.underlying22 (by kernel_rfl) (by kernel_rfl) (by decide) hy0_2
  obtain ⟨l0, rfl, _⟩ := rows_of Coin.cells (fun _ => True) rows0 (fun r hr => Coin.of_flat (hflat0 r hr))
  rw [List.length_map] at hlen0
  subst hlen0
  obtain ⟨x1, rfl, _, _, w1⟩ := open_int Try.underlying3 (hval 1 3 v1 rfl rfl) h1
  obtain ⟨x2, rfl, _, _, w2⟩ := open_int Try.underlying3 (hval 2 3 v2 rfl rfl) h2
  refine (l_FnExactPurseWhen a0_0 a0_1 l0 A0 cap0 x1 x2 W (by omega) w1 w2 hrd0).mono fun e W' ⟨he, hb⟩ => ⟨_, he, ?_⟩
  exact law_post FnExactPurseWhen_laidOut (by kernel_rfl) (tb := 4) rfl Try.underlying4 rfl (fun ds' hl => by match ds', hl with | [_, _, _], _ => rfl) hW' hb

theorem FnExactPurseWhen_holds : Rows.FnExactPurseWhenSaid :=
  OpenClaim.holds_of_wide 11 Try.f11 rfl rfl rfl rfl rfl rfl rfl ⟨rfl, rfl, rfl, rfl, rfl⟩ rfl rfl rfl rfl rfl (by kernel_rfl) Try.func11 (by kernel_rfl)
    (of_decide_eq_true (by kernel_rfl)) (by unfold Func.isWrapper; first | (rw [if_pos (by decide +kernel)]; kernel_rfl) | (rw [if_neg (by decide +kernel)]; exact ⟨rfl, rfl⟩))
    (fun os started H enc _ => FnExactPurseWhen_lifted os started H enc)
#print axioms FnExactPurseWhen_holds
end Go.Proofs.Ytkgnipaponfbkaa

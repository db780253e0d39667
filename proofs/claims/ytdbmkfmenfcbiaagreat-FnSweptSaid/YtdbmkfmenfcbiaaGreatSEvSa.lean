/- EventOk: the reference's walk. -/
import Derived.Test.YtdbmkfmenfcbiaaGreatRows
import Derived.Test.YtdbmkfmenfcbiaaGreatSM2
import Derived.Test.YtdbmkfmenfcbiaaGreatSM1
namespace Go.Proofs.YtdbmkfmenfcbiaaGreat
open Go.RowKit Go.Deep
set_option maxRecDepth 100000 in
set_option maxHeartbeats 4000000 in
theorem ztx (e : Event) (w : World) (k1 : 1 ≤ e.Kind) (k2 : e.Kind ≤ 11) (hk : e.Kind = 4) :
  Calls Tryz.prog 62 #[.agg #[.int .i64 e.Kind,.int .i64 e.Key,.int .i64 e.Ch,.int .i64 e.To,.int .i64 e.Amt,.int .i64 e.Fee,.bool e.Yes]] w fun e' w' => e' = .returned (.bool (evB e))∧Below w.heap.size w w':=by
 obtain ⟨h0,h1,h2,h3,h4,h5,hr,hv⟩:=zpz k1 k2
 have HR:=hd_ hr
 rw [if_pos hk,if_pos hk] at hv
 have HE:=hd_ hv
 clear hv hr
 have t4 : (e.Kind == 4) = true:=by rw [beq_iff_eq];exact hk
 have d1 : decide (e.Kind < 1) = false:=decide_eq_false (by omega)
 have d2 : decide (e.Kind > 11) = false:=decide_eq_false (by omega)
 clear hk
 obtain ⟨E,hE⟩ : ∃ E,E = w.heap.size:=⟨_,rfl⟩
 go_enter Tryz.func62,Tryz.ntmps62
 go_wp2_with fail
 refine (zyc e.Kind _ k1 k2).mono ?_
 rintro e' w1 ⟨rfl,rfl⟩
 rw [HR.out]
 go_wp2_with fail
 try rw [← hE]
 refine zka (fun w1 hw => ?_)
 obtain ⟨G,hG⟩ : ∃ G,G = E + 1:=⟨_,rfl⟩
 try rw [← hG]
 have HE_w1 : Hid (Hx w1 E (evC e) 64):=hd_ (by rw [hw,hE];exact hp_)
 have HH_w1 : Hid (Hx w1 G #[.bool h0,.bool h1,.bool h2,.bool h3,.bool h4,.bool h5] 4):=hd_ (by rw [hw,hG,hE];exact zqm (by simp))
 have HB_w1 : Hid (Below w.heap.size w w1):=hd_ (by rw [hw];exact bl_)
 clear hw hE hG t4 d1 d2
 obtain ⟨E0,E1,E2,E3,E4,E5,E6,-,-⟩:=box7_ HE_w1.out
 obtain ⟨H0,H1,H2,H3,H4,H5,-,-⟩:=box6_ HH_w1.out
 refine zqw (fun w' => kqE w' E e (kqbbbbbb_ w' G h0 h1 h2 h3 h4 h5)) [yF 0 20,yF 1 21,yF 2 22,yF 3 23,yF 4 24,yT 5 25,yF 6 26,yF 7 27,yH 8 28 27,yH 9 29 27,yH 10 30 27,yH 11 31 27,yH 12 32 27,(13,some 33,true,some (27,false)),yH 14 34 27,yF 15 35,yF 16 36,yH 17 37 36,yH 18 38 36,yH 19 39 36,yH 20 40 36,yH 21 41 36,(22,some 42,true,some (36,false)),yH 23 43 36,yF 24 44,yF 25 45,yH 26 46 45,yH 27 47 45,yH 28 48 45,yH 29 49 45,yG 30 50 49,yG 31 51 49,yG 32 52 49,yG 33 53 49,yG 34 54 49,yH 35 55 45,yF 36 56] (by kernel_rfl) (by kernel_rfl) (by kernel_rfl) ⟨E0,E1,E2,E3,E4,E5,E6,H0,H1,H2,H3,H4,H5⟩ (fun hHeld => ?_)
 obtain ⟨w2,hwd⟩ : ∃ wd,w1.drew = wd:=⟨_,rfl⟩
 have HE_w2 : Hid (Hx w2 E (evC e) 64):=hd_ (by rw [← hwd];exact zqk HE_w1.out)
 have HH_w2 : Hid (Hx w2 G #[.bool h0,.bool h1,.bool h2,.bool h3,.bool h4,.bool h5] 4):=hd_ (by rw [← hwd];exact zqk HH_w1.out)
 have HB_w2 : Hid (Below w.heap.size w w2):=hd_ (by rw [← hwd];exact HB_w1.out.drew)
 clear E0 E1 E2 E3 E4 E5 E6 H0 H1 H2 H3 H4 H5
 rw [hwd] at hHeld ⊢
 clear hwd
 obtain ⟨E0,E1,E2,E3,E4,E5,E6,-,-⟩:=box7_ HE_w2.out
 obtain ⟨H0,H1,H2,H3,H4,H5,-,-⟩:=box6_ HH_w2.out
 refine tk_ ?_
 refine Sq.step rfl (by rfl) (fun K hK => ?_)
 go_simp
 refine (zxr _ _ _ _ _).mono ?_
 rintro e' wz ⟨rfl,rfl⟩
 go_simp
 refine hK.out _ _ ⟨E0,E1,E2,E3,E4,E5,E6,H0,H1,H2,H3,H4,H5⟩ (fun hHeld => ?_)
 clear hK K
 refine tk_ ?_
 cases g0 : fldB h0 e.Key 1 1000000
 ·
  refine tk_ ?_
  refine Sq.done (NoPanic.normal ?_)
  go_wp2_with fail
  go_ret
  exact ⟨zqj (by rw [HE.out];simp [evS,g0]),HB_w2.out⟩
 ·
  refine tk_ ?_
  refine Sq.step rfl (by rfl) (fun K hK => ?_)
  go_simp
  refine (zxr _ _ _ _ _).mono ?_
  rintro e' wz ⟨rfl,rfl⟩
  go_simp
  refine hK.out _ _ ⟨E0,E1,E2,E3,E4,E5,E6,H0,H1,H2,H3,H4,H5⟩ (fun hHeld => ?_)
  clear hK K
  refine tk_ ?_
  cases g1 : fldB h1 e.Ch 1 99
  ·
   refine tk_ ?_
   refine Sq.done (NoPanic.normal ?_)
   go_wp2_with fail
   go_ret
   exact ⟨zqj (by rw [HE.out];simp [evS,g0,g1]),HB_w2.out⟩
  ·
   refine tk_ ?_
   refine Sq.step rfl (by rfl) (fun K hK => ?_)
   go_simp
   refine (zxr _ _ _ _ _).mono ?_
   rintro e' wz ⟨rfl,rfl⟩
   go_simp
   refine hK.out _ _ ⟨E0,E1,E2,E3,E4,E5,E6,H0,H1,H2,H3,H4,H5⟩ (fun hHeld => ?_)
   clear hK K
   refine tk_ ?_
   cases g2 : fldB h2 e.To 1 99
   ·
    refine tk_ ?_
    refine Sq.done (NoPanic.normal ?_)
    go_wp2_with fail
    go_ret
    exact ⟨zqj (by rw [HE.out];simp [evS,g0,g1,g2]),HB_w2.out⟩
   ·
    cases h2
    ·
     refine tk_ ?_
     refine Sq.done (NoPanic.normal ?_)
     go_wp2_with fail
     refine zqw (fun w' => kqE w' E e (kqbbbbbb_ w' G h0 h1 false h3 h4 h5)) [yF 0 57,yF 1 58,yF 2 59,yF 3 60,yF 4 61,yF 5 62,yT 6 63,yF 7 64,yG 8 65 64,yG 9 66 64,yG 10 67 64,yG 11 68 64,yG 12 69 64,yG 13 70 64,(14,some 71,true,some (64,true)),yF 15 72,yF 16 73,yG 17 74 73,yG 18 75 73,yG 19 76 73,yG 20 77 73,yH 21 78 77,yH 22 79 77,yH 23 80 77,yG 24 81 73,yF 25 82,yF 26 2] (by kernel_rfl) (by kernel_rfl) (by kernel_rfl) ⟨E0,E1,E2,E3,E4,E5,E6,H0,H1,H2,H3,H4,H5⟩ (fun hHeld => ?_)
     obtain ⟨w3,hwd⟩ : ∃ wd,w2.drew = wd:=⟨_,rfl⟩
     have HE_w3 : Hid (Hx w3 E (evC e) 64):=hd_ (by rw [← hwd];exact zqk HE_w2.out)
     have HH_w3 : Hid (Hx w3 G #[.bool h0,.bool h1,.bool false,.bool h3,.bool h4,.bool h5] 4):=hd_ (by rw [← hwd];exact zqk HH_w2.out)
     have HB_w3 : Hid (Below w.heap.size w w3):=hd_ (by rw [← hwd];exact HB_w2.out.drew)
     clear E0 E1 E2 E3 E4 E5 E6 H0 H1 H2 H3 H4 H5
     rw [hwd] at hHeld ⊢
     clear hwd
     obtain ⟨E0,E1,E2,E3,E4,E5,E6,-,-⟩:=box7_ HE_w3.out
     obtain ⟨H0,H1,H2,H3,H4,H5,-,-⟩:=box6_ HH_w3.out
     refine tk_ ?_
     refine Sq.step rfl (by rfl) (fun K hK => ?_)
     go_simp
     refine (zxr _ _ _ _ _).mono ?_
     rintro e' wz ⟨rfl,rfl⟩
     go_simp
     refine hK.out _ _ ⟨E0,E1,E2,E3,E4,E5,E6,H0,H1,H2,H3,H4,H5⟩ (fun hHeld => ?_)
     clear hK K
     refine tk_ ?_
     cases g3 : fldB h3 e.Amt 0 1125899906842624
     ·
      refine tk_ ?_
      refine Sq.done (NoPanic.normal ?_)
      go_wp2_with fail
      go_ret
      exact ⟨zqj (by rw [HE.out];simp [evS,g0,g1,g2,g3]),HB_w3.out⟩
     ·
      refine tk_ ?_
      refine Sq.step rfl (by rfl) (fun K hK => ?_)
      go_simp
      refine (zxr _ _ _ _ _).mono ?_
      rintro e' wz ⟨rfl,rfl⟩
      go_simp
      refine hK.out _ _ ⟨E0,E1,E2,E3,E4,E5,E6,H0,H1,H2,H3,H4,H5⟩ (fun hHeld => ?_)
      clear hK K
      refine tk_ ?_
      cases g4 : fldB h4 e.Fee 0 1000000
      ·
       refine tk_ ?_
       refine Sq.done (NoPanic.normal ?_)
       go_wp2_with fail
       go_ret
       exact ⟨zqj (by rw [HE.out];simp [evS,g0,g1,g2,g3,g4]),HB_w3.out⟩
      ·
       cases h5
       ·
        refine tk_ ?_
        refine Sq.done (NoPanic.normal ?_)
        go_wp2_with fail
        go_ret
        exact ⟨zqj (by rw [HE.out];simp [evS,g0,g1,g2,g3,g4]),HB_w3.out⟩
       ·
        refine tk_ ?_
        refine Sq.done (NoPanic.normal ?_)
        go_wp2_with fail
        go_ret
        exact ⟨zqj (by rw [HE.out];simp [evS,g0,g1,g2,g3,g4]),HB_w3.out⟩
    ·
     cases tq : (e.Ch == e.To)
     ·
      refine tk_ ?_
      refine Sq.done (NoPanic.normal ?_)
      go_wp2_with fail
      refine zqw (fun w' => kqE w' E e (kqbbbbbb_ w' G h0 h1 true h3 h4 h5)) [yF 0 57,yF 1 58,yF 2 59,yF 3 60,yF 4 61,yF 5 62,yT 6 63,yF 7 64,yG 8 65 64,yG 9 66 64,yG 10 67 64,yG 11 68 64,yG 12 69 64,yG 13 70 64,(14,some 71,true,some (64,true)),yF 15 72,yF 16 73,yG 17 74 73,yG 18 75 73,yG 19 76 73,yG 20 77 73,yH 21 78 77,yH 22 79 77,yH 23 80 77,yG 24 81 73,yF 25 82,yF 26 2] (by kernel_rfl) (by kernel_rfl) (by kernel_rfl) ⟨E0,E1,E2,E3,E4,E5,E6,H0,H1,H2,H3,H4,H5⟩ (fun hHeld => ?_)
      obtain ⟨w3,hwd⟩ : ∃ wd,w2.drew = wd:=⟨_,rfl⟩
      have HE_w3 : Hid (Hx w3 E (evC e) 64):=hd_ (by rw [← hwd];exact zqk HE_w2.out)
      have HH_w3 : Hid (Hx w3 G #[.bool h0,.bool h1,.bool true,.bool h3,.bool h4,.bool h5] 4):=hd_ (by rw [← hwd];exact zqk HH_w2.out)
      have HB_w3 : Hid (Below w.heap.size w w3):=hd_ (by rw [← hwd];exact HB_w2.out.drew)
      clear E0 E1 E2 E3 E4 E5 E6 H0 H1 H2 H3 H4 H5
      rw [hwd] at hHeld ⊢
      clear hwd
      obtain ⟨E0,E1,E2,E3,E4,E5,E6,-,-⟩:=box7_ HE_w3.out
      obtain ⟨H0,H1,H2,H3,H4,H5,-,-⟩:=box6_ HH_w3.out
      refine tk_ ?_
      refine Sq.step rfl (by rfl) (fun K hK => ?_)
      go_simp
      refine (zxr _ _ _ _ _).mono ?_
      rintro e' wz ⟨rfl,rfl⟩
      go_simp
      refine hK.out _ _ ⟨E0,E1,E2,E3,E4,E5,E6,H0,H1,H2,H3,H4,H5⟩ (fun hHeld => ?_)
      clear hK K
      refine tk_ ?_
      cases g3 : fldB h3 e.Amt 0 1125899906842624
      ·
       refine tk_ ?_
       refine Sq.done (NoPanic.normal ?_)
       go_wp2_with fail
       go_ret
       exact ⟨zqj (by rw [HE.out];simp [evS,g0,g1,g2,tq,g3]),HB_w3.out⟩
      ·
       refine tk_ ?_
       refine Sq.step rfl (by rfl) (fun K hK => ?_)
       go_simp
       refine (zxr _ _ _ _ _).mono ?_
       rintro e' wz ⟨rfl,rfl⟩
       go_simp
       refine hK.out _ _ ⟨E0,E1,E2,E3,E4,E5,E6,H0,H1,H2,H3,H4,H5⟩ (fun hHeld => ?_)
       clear hK K
       refine tk_ ?_
       cases g4 : fldB h4 e.Fee 0 1000000
       ·
        refine tk_ ?_
        refine Sq.done (NoPanic.normal ?_)
        go_wp2_with fail
        go_ret
        exact ⟨zqj (by rw [HE.out];simp [evS,g0,g1,g2,tq,g3,g4]),HB_w3.out⟩
       ·
        cases h5
        ·
         refine tk_ ?_
         refine Sq.done (NoPanic.normal ?_)
         go_wp2_with fail
         go_ret
         exact ⟨zqj (by rw [HE.out];simp [evS,g0,g1,g2,tq,g3,g4]),HB_w3.out⟩
        ·
         refine tk_ ?_
         refine Sq.done (NoPanic.normal ?_)
         go_wp2_with fail
         go_ret
         exact ⟨zqj (by rw [HE.out];simp [evS,g0,g1,g2,tq,g3,g4]),HB_w3.out⟩
     ·
      refine tk_ ?_
      refine Sq.done (NoPanic.normal ?_)
      go_wp2_with fail
      go_ret
      exact ⟨zqj (by rw [HE.out];simp [evS,g0,g1,g2,tq]),HB_w2.out⟩
set_option maxRecDepth 100000 in
set_option maxHeartbeats 4000000 in
theorem zty (e : Event) (w : World) (k1 : 1 ≤ e.Kind) (k2 : e.Kind ≤ 11) (hk : ¬ e.Kind = 4) :
  Calls Tryz.prog 62 #[.agg #[.int .i64 e.Kind,.int .i64 e.Key,.int .i64 e.Ch,.int .i64 e.To,.int .i64 e.Amt,.int .i64 e.Fee,.bool e.Yes]] w fun e' w' => e' = .returned (.bool (evB e))∧Below w.heap.size w w':=by
 obtain ⟨h0,h1,h2,h3,h4,h5,hr,hv⟩:=zpz k1 k2
 have HR:=hd_ hr
 rw [if_neg hk,if_neg hk] at hv
 have HE:=hd_ hv
 clear hv hr
 have t4 : (e.Kind == 4) = false:=by rw [beq_eq_false_iff_ne];exact hk
 have d1 : decide (e.Kind < 1) = false:=decide_eq_false (by omega)
 have d2 : decide (e.Kind > 11) = false:=decide_eq_false (by omega)
 clear hk
 obtain ⟨E,hE⟩ : ∃ E,E = w.heap.size:=⟨_,rfl⟩
 go_enter Tryz.func62,Tryz.ntmps62
 go_wp2_with fail
 refine (zyc e.Kind _ k1 k2).mono ?_
 rintro e' w1 ⟨rfl,rfl⟩
 rw [HR.out]
 go_wp2_with fail
 try rw [← hE]
 refine zka (fun w1 hw => ?_)
 obtain ⟨G,hG⟩ : ∃ G,G = E + 1:=⟨_,rfl⟩
 try rw [← hG]
 have HE_w1 : Hid (Hx w1 E (evC e) 64):=hd_ (by rw [hw,hE];exact hp_)
 have HH_w1 : Hid (Hx w1 G #[.bool h0,.bool h1,.bool h2,.bool h3,.bool h4,.bool h5] 4):=hd_ (by rw [hw,hG,hE];exact zqm (by simp))
 have HB_w1 : Hid (Below w.heap.size w w1):=hd_ (by rw [hw];exact bl_)
 clear hw hE hG t4 d1 d2
 obtain ⟨E0,E1,E2,E3,E4,E5,E6,-,-⟩:=box7_ HE_w1.out
 obtain ⟨H0,H1,H2,H3,H4,H5,-,-⟩:=box6_ HH_w1.out
 refine zqw (fun w' => kqE w' E e (kqbbbbbb_ w' G h0 h1 h2 h3 h4 h5)) [yF 0 20,yF 1 21,yF 2 22,yF 3 23,yF 4 24,yT 5 25,yF 6 26,yF 7 27,yH 8 28 27,yH 9 29 27,yH 10 30 27,yH 11 31 27,yH 12 32 27,(13,some 33,true,some (27,false)),yH 14 34 27,yF 15 35,yF 16 36,yH 17 37 36,yH 18 38 36,yH 19 39 36,yH 20 40 36,yH 21 41 36,(22,some 42,true,some (36,false)),yH 23 43 36,yF 24 44,yF 25 45,yH 26 46 45,yH 27 47 45,yH 28 48 45,yH 29 49 45,yG 30 50 49,yG 31 51 49,yG 32 52 49,yG 33 53 49,yG 34 54 49,yH 35 55 45,yF 36 56] (by kernel_rfl) (by kernel_rfl) (by kernel_rfl) ⟨E0,E1,E2,E3,E4,E5,E6,H0,H1,H2,H3,H4,H5⟩ (fun hHeld => ?_)
 obtain ⟨w2,hwd⟩ : ∃ wd,w1.drew = wd:=⟨_,rfl⟩
 have HE_w2 : Hid (Hx w2 E (evC e) 64):=hd_ (by rw [← hwd];exact zqk HE_w1.out)
 have HH_w2 : Hid (Hx w2 G #[.bool h0,.bool h1,.bool h2,.bool h3,.bool h4,.bool h5] 4):=hd_ (by rw [← hwd];exact zqk HH_w1.out)
 have HB_w2 : Hid (Below w.heap.size w w2):=hd_ (by rw [← hwd];exact HB_w1.out.drew)
 clear E0 E1 E2 E3 E4 E5 E6 H0 H1 H2 H3 H4 H5
 rw [hwd] at hHeld ⊢
 clear hwd
 obtain ⟨E0,E1,E2,E3,E4,E5,E6,-,-⟩:=box7_ HE_w2.out
 obtain ⟨H0,H1,H2,H3,H4,H5,-,-⟩:=box6_ HH_w2.out
 refine tk_ ?_
 refine Sq.step rfl (by rfl) (fun K hK => ?_)
 go_simp
 refine (zxr _ _ _ _ _).mono ?_
 rintro e' wz ⟨rfl,rfl⟩
 go_simp
 refine hK.out _ _ ⟨E0,E1,E2,E3,E4,E5,E6,H0,H1,H2,H3,H4,H5⟩ (fun hHeld => ?_)
 clear hK K
 refine tk_ ?_
 cases g0 : fldB h0 e.Key 1 1000000
 ·
  refine tk_ ?_
  refine Sq.done (NoPanic.normal ?_)
  go_wp2_with fail
  go_ret
  exact ⟨zqj (by rw [HE.out];simp [evS,g0]),HB_w2.out⟩
 ·
  refine tk_ ?_
  refine Sq.step rfl (by rfl) (fun K hK => ?_)
  go_simp
  refine (zxr _ _ _ _ _).mono ?_
  rintro e' wz ⟨rfl,rfl⟩
  go_simp
  refine hK.out _ _ ⟨E0,E1,E2,E3,E4,E5,E6,H0,H1,H2,H3,H4,H5⟩ (fun hHeld => ?_)
  clear hK K
  refine tk_ ?_
  cases g1 : fldB h1 e.Ch 1 99
  ·
   refine tk_ ?_
   refine Sq.done (NoPanic.normal ?_)
   go_wp2_with fail
   go_ret
   exact ⟨zqj (by rw [HE.out];simp [evS,g0,g1]),HB_w2.out⟩
  ·
   refine tk_ ?_
   refine Sq.step rfl (by rfl) (fun K hK => ?_)
   go_simp
   refine (zxr _ _ _ _ _).mono ?_
   rintro e' wz ⟨rfl,rfl⟩
   go_simp
   refine hK.out _ _ ⟨E0,E1,E2,E3,E4,E5,E6,H0,H1,H2,H3,H4,H5⟩ (fun hHeld => ?_)
   clear hK K
   refine tk_ ?_
   cases g2 : fldB h2 e.To 1 99
   ·
    refine tk_ ?_
    refine Sq.done (NoPanic.normal ?_)
    go_wp2_with fail
    go_ret
    exact ⟨zqj (by rw [HE.out];simp [evS,g0,g1,g2]),HB_w2.out⟩
   ·
    cases h2
    ·
     refine tk_ ?_
     refine Sq.done (NoPanic.normal ?_)
     go_wp2_with fail
     refine zqw (fun w' => kqE w' E e (kqbbbbbb_ w' G h0 h1 false h3 h4 h5)) [yF 0 57,yF 1 58,yF 2 59,yF 3 60,yF 4 61,yF 5 62,yT 6 63,yF 7 64,yG 8 65 64,yG 9 66 64,yG 10 67 64,yG 11 68 64,yG 12 69 64,yG 13 70 64,(14,some 71,true,some (64,true)),yF 15 72,yF 16 73,yG 17 74 73,yG 18 75 73,yG 19 76 73,yG 20 77 73,yH 21 78 77,yH 22 79 77,yH 23 80 77,yG 24 81 73,yF 25 82,yF 26 2] (by kernel_rfl) (by kernel_rfl) (by kernel_rfl) ⟨E0,E1,E2,E3,E4,E5,E6,H0,H1,H2,H3,H4,H5⟩ (fun hHeld => ?_)
     obtain ⟨w3,hwd⟩ : ∃ wd,w2.drew = wd:=⟨_,rfl⟩
     have HE_w3 : Hid (Hx w3 E (evC e) 64):=hd_ (by rw [← hwd];exact zqk HE_w2.out)
     have HH_w3 : Hid (Hx w3 G #[.bool h0,.bool h1,.bool false,.bool h3,.bool h4,.bool h5] 4):=hd_ (by rw [← hwd];exact zqk HH_w2.out)
     have HB_w3 : Hid (Below w.heap.size w w3):=hd_ (by rw [← hwd];exact HB_w2.out.drew)
     clear E0 E1 E2 E3 E4 E5 E6 H0 H1 H2 H3 H4 H5
     rw [hwd] at hHeld ⊢
     clear hwd
     obtain ⟨E0,E1,E2,E3,E4,E5,E6,-,-⟩:=box7_ HE_w3.out
     obtain ⟨H0,H1,H2,H3,H4,H5,-,-⟩:=box6_ HH_w3.out
     refine tk_ ?_
     refine Sq.step rfl (by rfl) (fun K hK => ?_)
     go_simp
     refine (zxr _ _ _ _ _).mono ?_
     rintro e' wz ⟨rfl,rfl⟩
     go_simp
     refine hK.out _ _ ⟨E0,E1,E2,E3,E4,E5,E6,H0,H1,H2,H3,H4,H5⟩ (fun hHeld => ?_)
     clear hK K
     refine tk_ ?_
     cases g3 : fldB h3 e.Amt 1 1125899906842624
     ·
      refine tk_ ?_
      refine Sq.done (NoPanic.normal ?_)
      go_wp2_with fail
      go_ret
      exact ⟨zqj (by rw [HE.out];simp [evS,g0,g1,g2,g3]),HB_w3.out⟩
     ·
      refine tk_ ?_
      refine Sq.step rfl (by rfl) (fun K hK => ?_)
      go_simp
      refine (zxr _ _ _ _ _).mono ?_
      rintro e' wz ⟨rfl,rfl⟩
      go_simp
      refine hK.out _ _ ⟨E0,E1,E2,E3,E4,E5,E6,H0,H1,H2,H3,H4,H5⟩ (fun hHeld => ?_)
      clear hK K
      refine tk_ ?_
      cases g4 : fldB h4 e.Fee 0 1125899906842624
      ·
       refine tk_ ?_
       refine Sq.done (NoPanic.normal ?_)
       go_wp2_with fail
       go_ret
       exact ⟨zqj (by rw [HE.out];simp [evS,g0,g1,g2,g3,g4]),HB_w3.out⟩
      ·
       cases h5
       ·
        refine tk_ ?_
        refine Sq.done (NoPanic.normal ?_)
        go_wp2_with fail
        go_ret
        exact ⟨zqj (by rw [HE.out];simp [evS,g0,g1,g2,g3,g4]),HB_w3.out⟩
       ·
        refine tk_ ?_
        refine Sq.done (NoPanic.normal ?_)
        go_wp2_with fail
        go_ret
        exact ⟨zqj (by rw [HE.out];simp [evS,g0,g1,g2,g3,g4]),HB_w3.out⟩
    ·
     cases tq : (e.Ch == e.To)
     ·
      refine tk_ ?_
      refine Sq.done (NoPanic.normal ?_)
      go_wp2_with fail
      refine zqw (fun w' => kqE w' E e (kqbbbbbb_ w' G h0 h1 true h3 h4 h5)) [yF 0 57,yF 1 58,yF 2 59,yF 3 60,yF 4 61,yF 5 62,yT 6 63,yF 7 64,yG 8 65 64,yG 9 66 64,yG 10 67 64,yG 11 68 64,yG 12 69 64,yG 13 70 64,(14,some 71,true,some (64,true)),yF 15 72,yF 16 73,yG 17 74 73,yG 18 75 73,yG 19 76 73,yG 20 77 73,yH 21 78 77,yH 22 79 77,yH 23 80 77,yG 24 81 73,yF 25 82,yF 26 2] (by kernel_rfl) (by kernel_rfl) (by kernel_rfl) ⟨E0,E1,E2,E3,E4,E5,E6,H0,H1,H2,H3,H4,H5⟩ (fun hHeld => ?_)
      obtain ⟨w3,hwd⟩ : ∃ wd,w2.drew = wd:=⟨_,rfl⟩
      have HE_w3 : Hid (Hx w3 E (evC e) 64):=hd_ (by rw [← hwd];exact zqk HE_w2.out)
      have HH_w3 : Hid (Hx w3 G #[.bool h0,.bool h1,.bool true,.bool h3,.bool h4,.bool h5] 4):=hd_ (by rw [← hwd];exact zqk HH_w2.out)
      have HB_w3 : Hid (Below w.heap.size w w3):=hd_ (by rw [← hwd];exact HB_w2.out.drew)
      clear E0 E1 E2 E3 E4 E5 E6 H0 H1 H2 H3 H4 H5
      rw [hwd] at hHeld ⊢
      clear hwd
      obtain ⟨E0,E1,E2,E3,E4,E5,E6,-,-⟩:=box7_ HE_w3.out
      obtain ⟨H0,H1,H2,H3,H4,H5,-,-⟩:=box6_ HH_w3.out
      refine tk_ ?_
      refine Sq.step rfl (by rfl) (fun K hK => ?_)
      go_simp
      refine (zxr _ _ _ _ _).mono ?_
      rintro e' wz ⟨rfl,rfl⟩
      go_simp
      refine hK.out _ _ ⟨E0,E1,E2,E3,E4,E5,E6,H0,H1,H2,H3,H4,H5⟩ (fun hHeld => ?_)
      clear hK K
      refine tk_ ?_
      cases g3 : fldB h3 e.Amt 1 1125899906842624
      ·
       refine tk_ ?_
       refine Sq.done (NoPanic.normal ?_)
       go_wp2_with fail
       go_ret
       exact ⟨zqj (by rw [HE.out];simp [evS,g0,g1,g2,tq,g3]),HB_w3.out⟩
      ·
       refine tk_ ?_
       refine Sq.step rfl (by rfl) (fun K hK => ?_)
       go_simp
       refine (zxr _ _ _ _ _).mono ?_
       rintro e' wz ⟨rfl,rfl⟩
       go_simp
       refine hK.out _ _ ⟨E0,E1,E2,E3,E4,E5,E6,H0,H1,H2,H3,H4,H5⟩ (fun hHeld => ?_)
       clear hK K
       refine tk_ ?_
       cases g4 : fldB h4 e.Fee 0 1125899906842624
       ·
        refine tk_ ?_
        refine Sq.done (NoPanic.normal ?_)
        go_wp2_with fail
        go_ret
        exact ⟨zqj (by rw [HE.out];simp [evS,g0,g1,g2,tq,g3,g4]),HB_w3.out⟩
       ·
        cases h5
        ·
         refine tk_ ?_
         refine Sq.done (NoPanic.normal ?_)
         go_wp2_with fail
         go_ret
         exact ⟨zqj (by rw [HE.out];simp [evS,g0,g1,g2,tq,g3,g4]),HB_w3.out⟩
        ·
         refine tk_ ?_
         refine Sq.done (NoPanic.normal ?_)
         go_wp2_with fail
         go_ret
         exact ⟨zqj (by rw [HE.out];simp [evS,g0,g1,g2,tq,g3,g4]),HB_w3.out⟩
     ·
      refine tk_ ?_
      refine Sq.done (NoPanic.normal ?_)
      go_wp2_with fail
      go_ret
      exact ⟨zqj (by rw [HE.out];simp [evS,g0,g1,g2,tq]),HB_w2.out⟩
set_option maxRecDepth 100000 in
theorem ztf (e : Event) (w : World) :
  Calls Tryz.prog 62 #[.agg #[.int .i64 e.Kind,.int .i64 e.Key,.int .i64 e.Ch,.int .i64 e.To,.int .i64 e.Amt,.int .i64 e.Fee,.bool e.Yes]] w fun e' w' => e' = .returned (.bool (evB e))∧Below w.heap.size w w':=by
 by_cases k1 : e.Kind < 1
 ·
  have HE:=hd_ (zga (e:=e) (Or.inl k1))
  go_enter Tryz.func62,Tryz.ntmps62
  go_wp2_with fail
  go_ret
  exact ⟨zqj HE.out.symm,bl_⟩
 by_cases k2 : 11 < e.Kind
 ·
  have HE:=hd_ (zga (e:=e) (Or.inr k2))
  have d1 : decide (e.Kind < 1) = false:=decide_eq_false (by omega)
  go_enter Tryz.func62,Tryz.ntmps62
  go_wp2_with fail
  go_ret
  exact ⟨zqj HE.out.symm,bl_⟩
 by_cases hk : e.Kind = 4
 ·
  exact ztx e w (by omega) (by omega) hk
 ·
  exact zty e w (by omega) (by omega) hk
end Go.Proofs.YtdbmkfmenfcbiaaGreat

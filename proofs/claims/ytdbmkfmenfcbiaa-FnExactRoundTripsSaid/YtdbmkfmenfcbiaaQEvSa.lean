/- EventOk: the reference's walk. -/
import Derived.Test.YtdbmkfmenfcbiaaRows
import Derived.Test.YtdbmkfmenfcbiaaQM2
import Derived.Test.YtdbmkfmenfcbiaaQM1
namespace Go.Proofs.Ytdbmkfmenfcbiaa
open Go.RowKit Go.Deep
set_option maxRecDepth 100000 in
set_option maxHeartbeats 4000000 in
theorem s_EventOk_4 (e : Event) (w : World) (k1 : 1 ≤ e.Kind) (k2 : e.Kind ≤ 11) (hk : e.Kind = 4) :
  Calls Try.prog 17 #[.agg #[.int .i64 e.Kind,.int .i64 e.Key,.int .i64 e.Ch,.int .i64 e.To,.int .i64 e.Amt,.int .i64 e.Fee,.bool e.Yes]] w fun e' w' => e' = .returned (.bool (evB e))∧Below w.heap.size w w':=by
 obtain ⟨h0,h1,h2,h3,h4,h5,hr,hv⟩:=evB_in k1 k2
 have HR:=hd_ hr
 rw [if_pos hk,if_pos hk] at hv
 have HE:=hd_ hv
 clear hv hr
 have t4 : (e.Kind == 4) = true:=by rw [beq_iff_eq];exact hk
 have d1 : decide (e.Kind < 1) = false:=decide_eq_false (by omega)
 have d2 : decide (e.Kind > 11) = false:=decide_eq_false (by omega)
 clear hk
 obtain ⟨E,hE⟩ : ∃ E,E = w.heap.size:=⟨_,rfl⟩
 go_enter Try.func17,Try.ntmps17
 go_wp2_with fail
 refine (s_l04Has e.Kind _ k1 k2).mono ?_
 rintro e' w1 ⟨rfl,rfl⟩
 rw [HR.out]
 go_wp2_with fail
 try rw [← hE]
 refine zhj (fun w1 hw => ?_)
 obtain ⟨G,hG⟩ : ∃ G,G = E + 1:=⟨_,rfl⟩
 try rw [← hG]
 have HE_w1 : Hid (w1.heap[E]? = some (.cells #[.int .i64 e.Kind,.int .i64 e.Key,.int .i64 e.Ch,.int .i64 e.To,.int .i64 e.Amt,.int .i64 e.Fee,.bool e.Yes] 37 (0,0))):=hd_ (by rw [hw,hE];exact hp_)
 have HH_w1 : Hid (w1.heap[G]? = some (.cells #[.bool h0,.bool h1,.bool h2,.bool h3,.bool h4,.bool h5] 4 (0,0))):=hd_ (by rw [hw,hG,hE];exact zqm (by simp))
 have HB_w1 : Hid (Below w.heap.size w w1):=hd_ (by rw [hw];exact bl_)
 clear hw hE hG t4 d1 d2
 obtain ⟨E0,E1,E2,E3,E4,E5,E6,-,-⟩:=box7_ HE_w1.out
 obtain ⟨H0,H1,H2,H3,H4,H5,-,-⟩:=box6_ HH_w1.out
 refine zqk (fun w' => w'.cell? ⟨E,0,none⟩ = some (.int .i64 e.Kind)∧w'.cell? ⟨E,1,none⟩ = some (.int .i64 e.Key)∧w'.cell? ⟨E,2,none⟩ = some (.int .i64 e.Ch)∧w'.cell? ⟨E,3,none⟩ = some (.int .i64 e.To)∧w'.cell? ⟨E,4,none⟩ = some (.int .i64 e.Amt)∧w'.cell? ⟨E,5,none⟩ = some (.int .i64 e.Fee)∧w'.cell? ⟨E,6,none⟩ = some (.bool e.Yes)∧w'.cell? ⟨G,0,none⟩ = some (.bool h0)∧w'.cell? ⟨G,1,none⟩ = some (.bool h1)∧w'.cell? ⟨G,2,none⟩ = some (.bool h2)∧w'.cell? ⟨G,3,none⟩ = some (.bool h3)∧w'.cell? ⟨G,4,none⟩ = some (.bool h4)∧w'.cell? ⟨G,5,none⟩ = some (.bool h5)) [(0,some 20,false,none),(1,some 21,false,none),(2,some 22,false,none),(3,some 23,false,none),(4,some 24,false,none),(5,some 25,true,none),(6,some 26,false,none),(7,some 27,false,none),(8,some 28,false,some (27,false)),(9,some 29,false,some (27,false)),(10,some 30,false,some (27,false)),(11,some 31,false,some (27,false)),(12,some 32,false,some (27,false)),(13,some 33,true,some (27,false)),(14,some 34,false,some (27,false)),(15,some 35,false,none),(16,some 36,false,none),(17,some 37,false,some (36,false)),(18,some 38,false,some (36,false)),(19,some 39,false,some (36,false)),(20,some 40,false,some (36,false)),(21,some 41,false,some (36,false)),(22,some 42,true,some (36,false)),(23,some 43,false,some (36,false)),(24,some 44,false,none),(25,some 45,false,none),(26,some 46,false,some (45,false)),(27,some 47,false,some (45,false)),(28,some 48,false,some (45,false)),(29,some 49,false,some (45,false)),(30,some 50,false,some (49,true)),(31,some 51,false,some (49,true)),(32,some 52,false,some (49,true)),(33,some 53,false,some (49,true)),(34,some 54,false,some (49,true)),(35,some 55,false,some (45,false)),(36,some 56,false,none)] (by kernel_rfl) (by kernel_rfl) (by kernel_rfl) ⟨E0,E1,E2,E3,E4,E5,E6,H0,H1,H2,H3,H4,H5⟩ (fun hHeld => ?_)
 obtain ⟨w2,hwd⟩ : ∃ wd,w1.drew = wd:=⟨_,rfl⟩
 have HE_w2 : Hid (w2.heap[E]? = some (.cells #[.int .i64 e.Kind,.int .i64 e.Key,.int .i64 e.Ch,.int .i64 e.To,.int .i64 e.Amt,.int .i64 e.Fee,.bool e.Yes] 37 (0,0))):=hd_ (by rw [← hwd];exact zqe HE_w1.out)
 have HH_w2 : Hid (w2.heap[G]? = some (.cells #[.bool h0,.bool h1,.bool h2,.bool h3,.bool h4,.bool h5] 4 (0,0))):=hd_ (by rw [← hwd];exact zqe HH_w1.out)
 have HB_w2 : Hid (Below w.heap.size w w2):=hd_ (by rw [← hwd];exact HB_w1.out.drew)
 clear E0 E1 E2 E3 E4 E5 E6 H0 H1 H2 H3 H4 H5
 rw [hwd] at hHeld ⊢
 clear hwd
 obtain ⟨E0,E1,E2,E3,E4,E5,E6,-,-⟩:=box7_ HE_w2.out
 obtain ⟨H0,H1,H2,H3,H4,H5,-,-⟩:=box6_ HH_w2.out
 refine tk_ ?_
 refine Sq.step rfl (by rfl) (fun K hK => ?_)
 go_simp
 refine (zkb _ _ _ _ _).mono ?_
 rintro e' wz ⟨rfl,rfl⟩
 go_simp
 refine hK.out _ _ ⟨E0,E1,E2,E3,E4,E5,E6,H0,H1,H2,H3,H4,H5⟩ (fun hHeld => ?_)
 clear hK K
 refine tk_ ?_
 cases g0 : fldB h0 e.Key 1 1000000
 ·
  refine tk_ ?_
  refine Sq.done (NoPanic.normal ?_)
  go_wp2_with fail
  go_ret
  exact ⟨zqf (by rw [HE.out];simp [evS,g0]),HB_w2.out⟩
 ·
  refine tk_ ?_
  refine Sq.step rfl (by rfl) (fun K hK => ?_)
  go_simp
  refine (zkb _ _ _ _ _).mono ?_
  rintro e' wz ⟨rfl,rfl⟩
  go_simp
  refine hK.out _ _ ⟨E0,E1,E2,E3,E4,E5,E6,H0,H1,H2,H3,H4,H5⟩ (fun hHeld => ?_)
  clear hK K
  refine tk_ ?_
  cases g1 : fldB h1 e.Ch 1 99
  ·
   refine tk_ ?_
   refine Sq.done (NoPanic.normal ?_)
   go_wp2_with fail
   go_ret
   exact ⟨zqf (by rw [HE.out];simp [evS,g0,g1]),HB_w2.out⟩
  ·
   refine tk_ ?_
   refine Sq.step rfl (by rfl) (fun K hK => ?_)
   go_simp
   refine (zkb _ _ _ _ _).mono ?_
   rintro e' wz ⟨rfl,rfl⟩
   go_simp
   refine hK.out _ _ ⟨E0,E1,E2,E3,E4,E5,E6,H0,H1,H2,H3,H4,H5⟩ (fun hHeld => ?_)
   clear hK K
   refine tk_ ?_
   cases g2 : fldB h2 e.To 1 99
   ·
    refine tk_ ?_
    refine Sq.done (NoPanic.normal ?_)
    go_wp2_with fail
    go_ret
    exact ⟨zqf (by rw [HE.out];simp [evS,g0,g1,g2]),HB_w2.out⟩
   ·
    cases h2
    ·
     refine tk_ ?_
     refine Sq.done (NoPanic.normal ?_)
     go_wp2_with fail
     refine zqk (fun w' => w'.cell? ⟨E,0,none⟩ = some (.int .i64 e.Kind)∧w'.cell? ⟨E,1,none⟩ = some (.int .i64 e.Key)∧w'.cell? ⟨E,2,none⟩ = some (.int .i64 e.Ch)∧w'.cell? ⟨E,3,none⟩ = some (.int .i64 e.To)∧w'.cell? ⟨E,4,none⟩ = some (.int .i64 e.Amt)∧w'.cell? ⟨E,5,none⟩ = some (.int .i64 e.Fee)∧w'.cell? ⟨E,6,none⟩ = some (.bool e.Yes)∧w'.cell? ⟨G,0,none⟩ = some (.bool h0)∧w'.cell? ⟨G,1,none⟩ = some (.bool h1)∧w'.cell? ⟨G,2,none⟩ = some (.bool false)∧w'.cell? ⟨G,3,none⟩ = some (.bool h3)∧w'.cell? ⟨G,4,none⟩ = some (.bool h4)∧w'.cell? ⟨G,5,none⟩ = some (.bool h5)) [(0,some 57,false,none),(1,some 58,false,none),(2,some 59,false,none),(3,some 60,false,none),(4,some 61,false,none),(5,some 62,false,none),(6,some 63,true,none),(7,some 64,false,none),(8,some 65,false,some (64,true)),(9,some 66,false,some (64,true)),(10,some 67,false,some (64,true)),(11,some 68,false,some (64,true)),(12,some 69,false,some (64,true)),(13,some 70,false,some (64,true)),(14,some 71,true,some (64,true)),(15,some 72,false,none),(16,some 73,false,none),(17,some 74,false,some (73,true)),(18,some 75,false,some (73,true)),(19,some 76,false,some (73,true)),(20,some 77,false,some (73,true)),(21,some 78,false,some (77,false)),(22,some 79,false,some (77,false)),(23,some 80,false,some (77,false)),(24,some 81,false,some (73,true)),(25,some 82,false,none),(26,some 2,false,none)] (by kernel_rfl) (by kernel_rfl) (by kernel_rfl) ⟨E0,E1,E2,E3,E4,E5,E6,H0,H1,H2,H3,H4,H5⟩ (fun hHeld => ?_)
     obtain ⟨w3,hwd⟩ : ∃ wd,w2.drew = wd:=⟨_,rfl⟩
     have HE_w3 : Hid (w3.heap[E]? = some (.cells #[.int .i64 e.Kind,.int .i64 e.Key,.int .i64 e.Ch,.int .i64 e.To,.int .i64 e.Amt,.int .i64 e.Fee,.bool e.Yes] 37 (0,0))):=hd_ (by rw [← hwd];exact zqe HE_w2.out)
     have HH_w3 : Hid (w3.heap[G]? = some (.cells #[.bool h0,.bool h1,.bool false,.bool h3,.bool h4,.bool h5] 4 (0,0))):=hd_ (by rw [← hwd];exact zqe HH_w2.out)
     have HB_w3 : Hid (Below w.heap.size w w3):=hd_ (by rw [← hwd];exact HB_w2.out.drew)
     clear E0 E1 E2 E3 E4 E5 E6 H0 H1 H2 H3 H4 H5
     rw [hwd] at hHeld ⊢
     clear hwd
     obtain ⟨E0,E1,E2,E3,E4,E5,E6,-,-⟩:=box7_ HE_w3.out
     obtain ⟨H0,H1,H2,H3,H4,H5,-,-⟩:=box6_ HH_w3.out
     refine tk_ ?_
     refine Sq.step rfl (by rfl) (fun K hK => ?_)
     go_simp
     refine (zkb _ _ _ _ _).mono ?_
     rintro e' wz ⟨rfl,rfl⟩
     go_simp
     refine hK.out _ _ ⟨E0,E1,E2,E3,E4,E5,E6,H0,H1,H2,H3,H4,H5⟩ (fun hHeld => ?_)
     clear hK K
     refine tk_ ?_
     cases g3 : fldB h3 e.Amt 0 1125899906842624
     ·
      refine tk_ ?_
      refine Sq.done (NoPanic.normal ?_)
      go_wp2_with fail
      go_ret
      exact ⟨zqf (by rw [HE.out];simp [evS,g0,g1,g2,g3]),HB_w3.out⟩
     ·
      refine tk_ ?_
      refine Sq.step rfl (by rfl) (fun K hK => ?_)
      go_simp
      refine (zkb _ _ _ _ _).mono ?_
      rintro e' wz ⟨rfl,rfl⟩
      go_simp
      refine hK.out _ _ ⟨E0,E1,E2,E3,E4,E5,E6,H0,H1,H2,H3,H4,H5⟩ (fun hHeld => ?_)
      clear hK K
      refine tk_ ?_
      cases g4 : fldB h4 e.Fee 0 1000000
      ·
       refine tk_ ?_
       refine Sq.done (NoPanic.normal ?_)
       go_wp2_with fail
       go_ret
       exact ⟨zqf (by rw [HE.out];simp [evS,g0,g1,g2,g3,g4]),HB_w3.out⟩
      ·
       cases h5
       ·
        refine tk_ ?_
        refine Sq.done (NoPanic.normal ?_)
        go_wp2_with fail
        go_ret
        exact ⟨zqf (by rw [HE.out];simp [evS,g0,g1,g2,g3,g4]),HB_w3.out⟩
       ·
        refine tk_ ?_
        refine Sq.done (NoPanic.normal ?_)
        go_wp2_with fail
        go_ret
        exact ⟨zqf (by rw [HE.out];simp [evS,g0,g1,g2,g3,g4]),HB_w3.out⟩
    ·
     cases tq : (e.Ch == e.To)
     ·
      refine tk_ ?_
      refine Sq.done (NoPanic.normal ?_)
      go_wp2_with fail
      refine zqk (fun w' => w'.cell? ⟨E,0,none⟩ = some (.int .i64 e.Kind)∧w'.cell? ⟨E,1,none⟩ = some (.int .i64 e.Key)∧w'.cell? ⟨E,2,none⟩ = some (.int .i64 e.Ch)∧w'.cell? ⟨E,3,none⟩ = some (.int .i64 e.To)∧w'.cell? ⟨E,4,none⟩ = some (.int .i64 e.Amt)∧w'.cell? ⟨E,5,none⟩ = some (.int .i64 e.Fee)∧w'.cell? ⟨E,6,none⟩ = some (.bool e.Yes)∧w'.cell? ⟨G,0,none⟩ = some (.bool h0)∧w'.cell? ⟨G,1,none⟩ = some (.bool h1)∧w'.cell? ⟨G,2,none⟩ = some (.bool true)∧w'.cell? ⟨G,3,none⟩ = some (.bool h3)∧w'.cell? ⟨G,4,none⟩ = some (.bool h4)∧w'.cell? ⟨G,5,none⟩ = some (.bool h5)) [(0,some 57,false,none),(1,some 58,false,none),(2,some 59,false,none),(3,some 60,false,none),(4,some 61,false,none),(5,some 62,false,none),(6,some 63,true,none),(7,some 64,false,none),(8,some 65,false,some (64,true)),(9,some 66,false,some (64,true)),(10,some 67,false,some (64,true)),(11,some 68,false,some (64,true)),(12,some 69,false,some (64,true)),(13,some 70,false,some (64,true)),(14,some 71,true,some (64,true)),(15,some 72,false,none),(16,some 73,false,none),(17,some 74,false,some (73,true)),(18,some 75,false,some (73,true)),(19,some 76,false,some (73,true)),(20,some 77,false,some (73,true)),(21,some 78,false,some (77,false)),(22,some 79,false,some (77,false)),(23,some 80,false,some (77,false)),(24,some 81,false,some (73,true)),(25,some 82,false,none),(26,some 2,false,none)] (by kernel_rfl) (by kernel_rfl) (by kernel_rfl) ⟨E0,E1,E2,E3,E4,E5,E6,H0,H1,H2,H3,H4,H5⟩ (fun hHeld => ?_)
      obtain ⟨w3,hwd⟩ : ∃ wd,w2.drew = wd:=⟨_,rfl⟩
      have HE_w3 : Hid (w3.heap[E]? = some (.cells #[.int .i64 e.Kind,.int .i64 e.Key,.int .i64 e.Ch,.int .i64 e.To,.int .i64 e.Amt,.int .i64 e.Fee,.bool e.Yes] 37 (0,0))):=hd_ (by rw [← hwd];exact zqe HE_w2.out)
      have HH_w3 : Hid (w3.heap[G]? = some (.cells #[.bool h0,.bool h1,.bool true,.bool h3,.bool h4,.bool h5] 4 (0,0))):=hd_ (by rw [← hwd];exact zqe HH_w2.out)
      have HB_w3 : Hid (Below w.heap.size w w3):=hd_ (by rw [← hwd];exact HB_w2.out.drew)
      clear E0 E1 E2 E3 E4 E5 E6 H0 H1 H2 H3 H4 H5
      rw [hwd] at hHeld ⊢
      clear hwd
      obtain ⟨E0,E1,E2,E3,E4,E5,E6,-,-⟩:=box7_ HE_w3.out
      obtain ⟨H0,H1,H2,H3,H4,H5,-,-⟩:=box6_ HH_w3.out
      refine tk_ ?_
      refine Sq.step rfl (by rfl) (fun K hK => ?_)
      go_simp
      refine (zkb _ _ _ _ _).mono ?_
      rintro e' wz ⟨rfl,rfl⟩
      go_simp
      refine hK.out _ _ ⟨E0,E1,E2,E3,E4,E5,E6,H0,H1,H2,H3,H4,H5⟩ (fun hHeld => ?_)
      clear hK K
      refine tk_ ?_
      cases g3 : fldB h3 e.Amt 0 1125899906842624
      ·
       refine tk_ ?_
       refine Sq.done (NoPanic.normal ?_)
       go_wp2_with fail
       go_ret
       exact ⟨zqf (by rw [HE.out];simp [evS,g0,g1,g2,tq,g3]),HB_w3.out⟩
      ·
       refine tk_ ?_
       refine Sq.step rfl (by rfl) (fun K hK => ?_)
       go_simp
       refine (zkb _ _ _ _ _).mono ?_
       rintro e' wz ⟨rfl,rfl⟩
       go_simp
       refine hK.out _ _ ⟨E0,E1,E2,E3,E4,E5,E6,H0,H1,H2,H3,H4,H5⟩ (fun hHeld => ?_)
       clear hK K
       refine tk_ ?_
       cases g4 : fldB h4 e.Fee 0 1000000
       ·
        refine tk_ ?_
        refine Sq.done (NoPanic.normal ?_)
        go_wp2_with fail
        go_ret
        exact ⟨zqf (by rw [HE.out];simp [evS,g0,g1,g2,tq,g3,g4]),HB_w3.out⟩
       ·
        cases h5
        ·
         refine tk_ ?_
         refine Sq.done (NoPanic.normal ?_)
         go_wp2_with fail
         go_ret
         exact ⟨zqf (by rw [HE.out];simp [evS,g0,g1,g2,tq,g3,g4]),HB_w3.out⟩
        ·
         refine tk_ ?_
         refine Sq.done (NoPanic.normal ?_)
         go_wp2_with fail
         go_ret
         exact ⟨zqf (by rw [HE.out];simp [evS,g0,g1,g2,tq,g3,g4]),HB_w3.out⟩
     ·
      refine tk_ ?_
      refine Sq.done (NoPanic.normal ?_)
      go_wp2_with fail
      go_ret
      exact ⟨zqf (by rw [HE.out];simp [evS,g0,g1,g2,tq]),HB_w2.out⟩
set_option maxRecDepth 100000 in
set_option maxHeartbeats 4000000 in
theorem s_EventOk_x (e : Event) (w : World) (k1 : 1 ≤ e.Kind) (k2 : e.Kind ≤ 11) (hk : ¬ e.Kind = 4) :
  Calls Try.prog 17 #[.agg #[.int .i64 e.Kind,.int .i64 e.Key,.int .i64 e.Ch,.int .i64 e.To,.int .i64 e.Amt,.int .i64 e.Fee,.bool e.Yes]] w fun e' w' => e' = .returned (.bool (evB e))∧Below w.heap.size w w':=by
 obtain ⟨h0,h1,h2,h3,h4,h5,hr,hv⟩:=evB_in k1 k2
 have HR:=hd_ hr
 rw [if_neg hk,if_neg hk] at hv
 have HE:=hd_ hv
 clear hv hr
 have t4 : (e.Kind == 4) = false:=by rw [beq_eq_false_iff_ne];exact hk
 have d1 : decide (e.Kind < 1) = false:=decide_eq_false (by omega)
 have d2 : decide (e.Kind > 11) = false:=decide_eq_false (by omega)
 clear hk
 obtain ⟨E,hE⟩ : ∃ E,E = w.heap.size:=⟨_,rfl⟩
 go_enter Try.func17,Try.ntmps17
 go_wp2_with fail
 refine (s_l04Has e.Kind _ k1 k2).mono ?_
 rintro e' w1 ⟨rfl,rfl⟩
 rw [HR.out]
 go_wp2_with fail
 try rw [← hE]
 refine zhj (fun w1 hw => ?_)
 obtain ⟨G,hG⟩ : ∃ G,G = E + 1:=⟨_,rfl⟩
 try rw [← hG]
 have HE_w1 : Hid (w1.heap[E]? = some (.cells #[.int .i64 e.Kind,.int .i64 e.Key,.int .i64 e.Ch,.int .i64 e.To,.int .i64 e.Amt,.int .i64 e.Fee,.bool e.Yes] 37 (0,0))):=hd_ (by rw [hw,hE];exact hp_)
 have HH_w1 : Hid (w1.heap[G]? = some (.cells #[.bool h0,.bool h1,.bool h2,.bool h3,.bool h4,.bool h5] 4 (0,0))):=hd_ (by rw [hw,hG,hE];exact zqm (by simp))
 have HB_w1 : Hid (Below w.heap.size w w1):=hd_ (by rw [hw];exact bl_)
 clear hw hE hG t4 d1 d2
 obtain ⟨E0,E1,E2,E3,E4,E5,E6,-,-⟩:=box7_ HE_w1.out
 obtain ⟨H0,H1,H2,H3,H4,H5,-,-⟩:=box6_ HH_w1.out
 refine zqk (fun w' => w'.cell? ⟨E,0,none⟩ = some (.int .i64 e.Kind)∧w'.cell? ⟨E,1,none⟩ = some (.int .i64 e.Key)∧w'.cell? ⟨E,2,none⟩ = some (.int .i64 e.Ch)∧w'.cell? ⟨E,3,none⟩ = some (.int .i64 e.To)∧w'.cell? ⟨E,4,none⟩ = some (.int .i64 e.Amt)∧w'.cell? ⟨E,5,none⟩ = some (.int .i64 e.Fee)∧w'.cell? ⟨E,6,none⟩ = some (.bool e.Yes)∧w'.cell? ⟨G,0,none⟩ = some (.bool h0)∧w'.cell? ⟨G,1,none⟩ = some (.bool h1)∧w'.cell? ⟨G,2,none⟩ = some (.bool h2)∧w'.cell? ⟨G,3,none⟩ = some (.bool h3)∧w'.cell? ⟨G,4,none⟩ = some (.bool h4)∧w'.cell? ⟨G,5,none⟩ = some (.bool h5)) [(0,some 20,false,none),(1,some 21,false,none),(2,some 22,false,none),(3,some 23,false,none),(4,some 24,false,none),(5,some 25,true,none),(6,some 26,false,none),(7,some 27,false,none),(8,some 28,false,some (27,false)),(9,some 29,false,some (27,false)),(10,some 30,false,some (27,false)),(11,some 31,false,some (27,false)),(12,some 32,false,some (27,false)),(13,some 33,true,some (27,false)),(14,some 34,false,some (27,false)),(15,some 35,false,none),(16,some 36,false,none),(17,some 37,false,some (36,false)),(18,some 38,false,some (36,false)),(19,some 39,false,some (36,false)),(20,some 40,false,some (36,false)),(21,some 41,false,some (36,false)),(22,some 42,true,some (36,false)),(23,some 43,false,some (36,false)),(24,some 44,false,none),(25,some 45,false,none),(26,some 46,false,some (45,false)),(27,some 47,false,some (45,false)),(28,some 48,false,some (45,false)),(29,some 49,false,some (45,false)),(30,some 50,false,some (49,true)),(31,some 51,false,some (49,true)),(32,some 52,false,some (49,true)),(33,some 53,false,some (49,true)),(34,some 54,false,some (49,true)),(35,some 55,false,some (45,false)),(36,some 56,false,none)] (by kernel_rfl) (by kernel_rfl) (by kernel_rfl) ⟨E0,E1,E2,E3,E4,E5,E6,H0,H1,H2,H3,H4,H5⟩ (fun hHeld => ?_)
 obtain ⟨w2,hwd⟩ : ∃ wd,w1.drew = wd:=⟨_,rfl⟩
 have HE_w2 : Hid (w2.heap[E]? = some (.cells #[.int .i64 e.Kind,.int .i64 e.Key,.int .i64 e.Ch,.int .i64 e.To,.int .i64 e.Amt,.int .i64 e.Fee,.bool e.Yes] 37 (0,0))):=hd_ (by rw [← hwd];exact zqe HE_w1.out)
 have HH_w2 : Hid (w2.heap[G]? = some (.cells #[.bool h0,.bool h1,.bool h2,.bool h3,.bool h4,.bool h5] 4 (0,0))):=hd_ (by rw [← hwd];exact zqe HH_w1.out)
 have HB_w2 : Hid (Below w.heap.size w w2):=hd_ (by rw [← hwd];exact HB_w1.out.drew)
 clear E0 E1 E2 E3 E4 E5 E6 H0 H1 H2 H3 H4 H5
 rw [hwd] at hHeld ⊢
 clear hwd
 obtain ⟨E0,E1,E2,E3,E4,E5,E6,-,-⟩:=box7_ HE_w2.out
 obtain ⟨H0,H1,H2,H3,H4,H5,-,-⟩:=box6_ HH_w2.out
 refine tk_ ?_
 refine Sq.step rfl (by rfl) (fun K hK => ?_)
 go_simp
 refine (zkb _ _ _ _ _).mono ?_
 rintro e' wz ⟨rfl,rfl⟩
 go_simp
 refine hK.out _ _ ⟨E0,E1,E2,E3,E4,E5,E6,H0,H1,H2,H3,H4,H5⟩ (fun hHeld => ?_)
 clear hK K
 refine tk_ ?_
 cases g0 : fldB h0 e.Key 1 1000000
 ·
  refine tk_ ?_
  refine Sq.done (NoPanic.normal ?_)
  go_wp2_with fail
  go_ret
  exact ⟨zqf (by rw [HE.out];simp [evS,g0]),HB_w2.out⟩
 ·
  refine tk_ ?_
  refine Sq.step rfl (by rfl) (fun K hK => ?_)
  go_simp
  refine (zkb _ _ _ _ _).mono ?_
  rintro e' wz ⟨rfl,rfl⟩
  go_simp
  refine hK.out _ _ ⟨E0,E1,E2,E3,E4,E5,E6,H0,H1,H2,H3,H4,H5⟩ (fun hHeld => ?_)
  clear hK K
  refine tk_ ?_
  cases g1 : fldB h1 e.Ch 1 99
  ·
   refine tk_ ?_
   refine Sq.done (NoPanic.normal ?_)
   go_wp2_with fail
   go_ret
   exact ⟨zqf (by rw [HE.out];simp [evS,g0,g1]),HB_w2.out⟩
  ·
   refine tk_ ?_
   refine Sq.step rfl (by rfl) (fun K hK => ?_)
   go_simp
   refine (zkb _ _ _ _ _).mono ?_
   rintro e' wz ⟨rfl,rfl⟩
   go_simp
   refine hK.out _ _ ⟨E0,E1,E2,E3,E4,E5,E6,H0,H1,H2,H3,H4,H5⟩ (fun hHeld => ?_)
   clear hK K
   refine tk_ ?_
   cases g2 : fldB h2 e.To 1 99
   ·
    refine tk_ ?_
    refine Sq.done (NoPanic.normal ?_)
    go_wp2_with fail
    go_ret
    exact ⟨zqf (by rw [HE.out];simp [evS,g0,g1,g2]),HB_w2.out⟩
   ·
    cases h2
    ·
     refine tk_ ?_
     refine Sq.done (NoPanic.normal ?_)
     go_wp2_with fail
     refine zqk (fun w' => w'.cell? ⟨E,0,none⟩ = some (.int .i64 e.Kind)∧w'.cell? ⟨E,1,none⟩ = some (.int .i64 e.Key)∧w'.cell? ⟨E,2,none⟩ = some (.int .i64 e.Ch)∧w'.cell? ⟨E,3,none⟩ = some (.int .i64 e.To)∧w'.cell? ⟨E,4,none⟩ = some (.int .i64 e.Amt)∧w'.cell? ⟨E,5,none⟩ = some (.int .i64 e.Fee)∧w'.cell? ⟨E,6,none⟩ = some (.bool e.Yes)∧w'.cell? ⟨G,0,none⟩ = some (.bool h0)∧w'.cell? ⟨G,1,none⟩ = some (.bool h1)∧w'.cell? ⟨G,2,none⟩ = some (.bool false)∧w'.cell? ⟨G,3,none⟩ = some (.bool h3)∧w'.cell? ⟨G,4,none⟩ = some (.bool h4)∧w'.cell? ⟨G,5,none⟩ = some (.bool h5)) [(0,some 57,false,none),(1,some 58,false,none),(2,some 59,false,none),(3,some 60,false,none),(4,some 61,false,none),(5,some 62,false,none),(6,some 63,true,none),(7,some 64,false,none),(8,some 65,false,some (64,true)),(9,some 66,false,some (64,true)),(10,some 67,false,some (64,true)),(11,some 68,false,some (64,true)),(12,some 69,false,some (64,true)),(13,some 70,false,some (64,true)),(14,some 71,true,some (64,true)),(15,some 72,false,none),(16,some 73,false,none),(17,some 74,false,some (73,true)),(18,some 75,false,some (73,true)),(19,some 76,false,some (73,true)),(20,some 77,false,some (73,true)),(21,some 78,false,some (77,false)),(22,some 79,false,some (77,false)),(23,some 80,false,some (77,false)),(24,some 81,false,some (73,true)),(25,some 82,false,none),(26,some 2,false,none)] (by kernel_rfl) (by kernel_rfl) (by kernel_rfl) ⟨E0,E1,E2,E3,E4,E5,E6,H0,H1,H2,H3,H4,H5⟩ (fun hHeld => ?_)
     obtain ⟨w3,hwd⟩ : ∃ wd,w2.drew = wd:=⟨_,rfl⟩
     have HE_w3 : Hid (w3.heap[E]? = some (.cells #[.int .i64 e.Kind,.int .i64 e.Key,.int .i64 e.Ch,.int .i64 e.To,.int .i64 e.Amt,.int .i64 e.Fee,.bool e.Yes] 37 (0,0))):=hd_ (by rw [← hwd];exact zqe HE_w2.out)
     have HH_w3 : Hid (w3.heap[G]? = some (.cells #[.bool h0,.bool h1,.bool false,.bool h3,.bool h4,.bool h5] 4 (0,0))):=hd_ (by rw [← hwd];exact zqe HH_w2.out)
     have HB_w3 : Hid (Below w.heap.size w w3):=hd_ (by rw [← hwd];exact HB_w2.out.drew)
     clear E0 E1 E2 E3 E4 E5 E6 H0 H1 H2 H3 H4 H5
     rw [hwd] at hHeld ⊢
     clear hwd
     obtain ⟨E0,E1,E2,E3,E4,E5,E6,-,-⟩:=box7_ HE_w3.out
     obtain ⟨H0,H1,H2,H3,H4,H5,-,-⟩:=box6_ HH_w3.out
     refine tk_ ?_
     refine Sq.step rfl (by rfl) (fun K hK => ?_)
     go_simp
     refine (zkb _ _ _ _ _).mono ?_
     rintro e' wz ⟨rfl,rfl⟩
     go_simp
     refine hK.out _ _ ⟨E0,E1,E2,E3,E4,E5,E6,H0,H1,H2,H3,H4,H5⟩ (fun hHeld => ?_)
     clear hK K
     refine tk_ ?_
     cases g3 : fldB h3 e.Amt 1 1125899906842624
     ·
      refine tk_ ?_
      refine Sq.done (NoPanic.normal ?_)
      go_wp2_with fail
      go_ret
      exact ⟨zqf (by rw [HE.out];simp [evS,g0,g1,g2,g3]),HB_w3.out⟩
     ·
      refine tk_ ?_
      refine Sq.step rfl (by rfl) (fun K hK => ?_)
      go_simp
      refine (zkb _ _ _ _ _).mono ?_
      rintro e' wz ⟨rfl,rfl⟩
      go_simp
      refine hK.out _ _ ⟨E0,E1,E2,E3,E4,E5,E6,H0,H1,H2,H3,H4,H5⟩ (fun hHeld => ?_)
      clear hK K
      refine tk_ ?_
      cases g4 : fldB h4 e.Fee 0 1125899906842624
      ·
       refine tk_ ?_
       refine Sq.done (NoPanic.normal ?_)
       go_wp2_with fail
       go_ret
       exact ⟨zqf (by rw [HE.out];simp [evS,g0,g1,g2,g3,g4]),HB_w3.out⟩
      ·
       cases h5
       ·
        refine tk_ ?_
        refine Sq.done (NoPanic.normal ?_)
        go_wp2_with fail
        go_ret
        exact ⟨zqf (by rw [HE.out];simp [evS,g0,g1,g2,g3,g4]),HB_w3.out⟩
       ·
        refine tk_ ?_
        refine Sq.done (NoPanic.normal ?_)
        go_wp2_with fail
        go_ret
        exact ⟨zqf (by rw [HE.out];simp [evS,g0,g1,g2,g3,g4]),HB_w3.out⟩
    ·
     cases tq : (e.Ch == e.To)
     ·
      refine tk_ ?_
      refine Sq.done (NoPanic.normal ?_)
      go_wp2_with fail
      refine zqk (fun w' => w'.cell? ⟨E,0,none⟩ = some (.int .i64 e.Kind)∧w'.cell? ⟨E,1,none⟩ = some (.int .i64 e.Key)∧w'.cell? ⟨E,2,none⟩ = some (.int .i64 e.Ch)∧w'.cell? ⟨E,3,none⟩ = some (.int .i64 e.To)∧w'.cell? ⟨E,4,none⟩ = some (.int .i64 e.Amt)∧w'.cell? ⟨E,5,none⟩ = some (.int .i64 e.Fee)∧w'.cell? ⟨E,6,none⟩ = some (.bool e.Yes)∧w'.cell? ⟨G,0,none⟩ = some (.bool h0)∧w'.cell? ⟨G,1,none⟩ = some (.bool h1)∧w'.cell? ⟨G,2,none⟩ = some (.bool true)∧w'.cell? ⟨G,3,none⟩ = some (.bool h3)∧w'.cell? ⟨G,4,none⟩ = some (.bool h4)∧w'.cell? ⟨G,5,none⟩ = some (.bool h5)) [(0,some 57,false,none),(1,some 58,false,none),(2,some 59,false,none),(3,some 60,false,none),(4,some 61,false,none),(5,some 62,false,none),(6,some 63,true,none),(7,some 64,false,none),(8,some 65,false,some (64,true)),(9,some 66,false,some (64,true)),(10,some 67,false,some (64,true)),(11,some 68,false,some (64,true)),(12,some 69,false,some (64,true)),(13,some 70,false,some (64,true)),(14,some 71,true,some (64,true)),(15,some 72,false,none),(16,some 73,false,none),(17,some 74,false,some (73,true)),(18,some 75,false,some (73,true)),(19,some 76,false,some (73,true)),(20,some 77,false,some (73,true)),(21,some 78,false,some (77,false)),(22,some 79,false,some (77,false)),(23,some 80,false,some (77,false)),(24,some 81,false,some (73,true)),(25,some 82,false,none),(26,some 2,false,none)] (by kernel_rfl) (by kernel_rfl) (by kernel_rfl) ⟨E0,E1,E2,E3,E4,E5,E6,H0,H1,H2,H3,H4,H5⟩ (fun hHeld => ?_)
      obtain ⟨w3,hwd⟩ : ∃ wd,w2.drew = wd:=⟨_,rfl⟩
      have HE_w3 : Hid (w3.heap[E]? = some (.cells #[.int .i64 e.Kind,.int .i64 e.Key,.int .i64 e.Ch,.int .i64 e.To,.int .i64 e.Amt,.int .i64 e.Fee,.bool e.Yes] 37 (0,0))):=hd_ (by rw [← hwd];exact zqe HE_w2.out)
      have HH_w3 : Hid (w3.heap[G]? = some (.cells #[.bool h0,.bool h1,.bool true,.bool h3,.bool h4,.bool h5] 4 (0,0))):=hd_ (by rw [← hwd];exact zqe HH_w2.out)
      have HB_w3 : Hid (Below w.heap.size w w3):=hd_ (by rw [← hwd];exact HB_w2.out.drew)
      clear E0 E1 E2 E3 E4 E5 E6 H0 H1 H2 H3 H4 H5
      rw [hwd] at hHeld ⊢
      clear hwd
      obtain ⟨E0,E1,E2,E3,E4,E5,E6,-,-⟩:=box7_ HE_w3.out
      obtain ⟨H0,H1,H2,H3,H4,H5,-,-⟩:=box6_ HH_w3.out
      refine tk_ ?_
      refine Sq.step rfl (by rfl) (fun K hK => ?_)
      go_simp
      refine (zkb _ _ _ _ _).mono ?_
      rintro e' wz ⟨rfl,rfl⟩
      go_simp
      refine hK.out _ _ ⟨E0,E1,E2,E3,E4,E5,E6,H0,H1,H2,H3,H4,H5⟩ (fun hHeld => ?_)
      clear hK K
      refine tk_ ?_
      cases g3 : fldB h3 e.Amt 1 1125899906842624
      ·
       refine tk_ ?_
       refine Sq.done (NoPanic.normal ?_)
       go_wp2_with fail
       go_ret
       exact ⟨zqf (by rw [HE.out];simp [evS,g0,g1,g2,tq,g3]),HB_w3.out⟩
      ·
       refine tk_ ?_
       refine Sq.step rfl (by rfl) (fun K hK => ?_)
       go_simp
       refine (zkb _ _ _ _ _).mono ?_
       rintro e' wz ⟨rfl,rfl⟩
       go_simp
       refine hK.out _ _ ⟨E0,E1,E2,E3,E4,E5,E6,H0,H1,H2,H3,H4,H5⟩ (fun hHeld => ?_)
       clear hK K
       refine tk_ ?_
       cases g4 : fldB h4 e.Fee 0 1125899906842624
       ·
        refine tk_ ?_
        refine Sq.done (NoPanic.normal ?_)
        go_wp2_with fail
        go_ret
        exact ⟨zqf (by rw [HE.out];simp [evS,g0,g1,g2,tq,g3,g4]),HB_w3.out⟩
       ·
        cases h5
        ·
         refine tk_ ?_
         refine Sq.done (NoPanic.normal ?_)
         go_wp2_with fail
         go_ret
         exact ⟨zqf (by rw [HE.out];simp [evS,g0,g1,g2,tq,g3,g4]),HB_w3.out⟩
        ·
         refine tk_ ?_
         refine Sq.done (NoPanic.normal ?_)
         go_wp2_with fail
         go_ret
         exact ⟨zqf (by rw [HE.out];simp [evS,g0,g1,g2,tq,g3,g4]),HB_w3.out⟩
     ·
      refine tk_ ?_
      refine Sq.done (NoPanic.normal ?_)
      go_wp2_with fail
      go_ret
      exact ⟨zqf (by rw [HE.out];simp [evS,g0,g1,g2,tq]),HB_w2.out⟩
set_option maxRecDepth 100000 in
theorem s_EventOk (e : Event) (w : World) :
  Calls Try.prog 17 #[.agg #[.int .i64 e.Kind,.int .i64 e.Key,.int .i64 e.Ch,.int .i64 e.To,.int .i64 e.Amt,.int .i64 e.Fee,.bool e.Yes]] w fun e' w' => e' = .returned (.bool (evB e))∧Below w.heap.size w w':=by
 by_cases k1 : e.Kind < 1
 ·
  have HE:=hd_ (evB_out (e:=e) (Or.inl k1))
  go_enter Try.func17,Try.ntmps17
  go_wp2_with fail
  go_ret
  exact ⟨zqf HE.out.symm,bl_⟩
 by_cases k2 : 11 < e.Kind
 ·
  have HE:=hd_ (evB_out (e:=e) (Or.inr k2))
  have d1 : decide (e.Kind < 1) = false:=decide_eq_false (by omega)
  go_enter Try.func17,Try.ntmps17
  go_wp2_with fail
  go_ret
  exact ⟨zqf HE.out.symm,bl_⟩
 by_cases hk : e.Kind = 4
 ·
  exact s_EventOk_4 e w (by omega) (by omega) hk
 ·
  exact s_EventOk_x e w (by omega) (by omega) hk
end Go.Proofs.Ytdbmkfmenfcbiaa

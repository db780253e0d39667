/- What a payment that ends earns: what the program puts to its list. -/
import Derived.Test.YtdbmkfmenfcbiaaGreatRows
import Derived.Test.YtdbmkfmenfcbiaaGreatNM5
import Derived.Test.YtdbmkfmenfcbiaaGreatNISm
import Derived.Test.YtdbmkfmenfcbiaaGreatNM1
import Derived.RegionTactic
import Derived.Deep.CutRange
import Derived.Deep.CutBlock
namespace Go.Proofs.YtdbmkfmenfcbiaaGreat
open Go.RowKit Go.Deep
theorem Fr.grownNew {ts : List TypeId} {w w' w'' : World} {X : Nat} (h : Fr ts w w') (hX : w.heap.size ≤ X) (hg : w'.grownBy w'' (some X)) : Fr ts w w'':=fun k cs t h1 h2 => zqe hg (fun e => by injection e with e;have:=(gz_ h1).1;omega) (h k cs t h1 h2)
structure Gs (w0 w : World) (B G : Nat) (l : List Gain) (A : Option Addr) (cap : Nat) : Prop where
 g : w.heap[G]? = some (.cells #[.slice A l.length cap] 24 (0,0))
 o : Ow w B 79 4 (.slice A l.length cap) (l.map Gain.cells)
 b : Below B w0 w
 f : Fr [24,79] w0 w
section
variable {w0 w w' : World} {B G : Nat} {l : List Gain} {A : Option Addr} {cap : Nat}
theorem Gs.below (h : Gs w0 w B G l A cap) (hB : B ≤ w.heap.size) (hb : Below w.heap.size w w') : Gs w0 w' B G l A cap :=
 ⟨zqr hb (gz_ h.g).1 h.g,h.o.below hb,h.b.trans (hb.mono hB),h.f.below hb⟩
theorem Gs.alloc (h : Gs w0 w B G l A cap) (hB : B ≤ w.heap.size) (o : Obj) : Gs w0 (w.alloc o) B G l A cap:=h.below hB ((Below.refl _ _).alloc (Nat.le_refl _) o)
theorem Gs.drew (h : Gs w0 w B G l A cap) : Gs w0 w.drew B G l A cap:=⟨h.g,h.o,h.b.drew,h.f⟩
theorem Gs.trans {w1 : World} (h0 : Below B w0 w1) (f0 : Fr [24,79] w0 w1) (h : Gs w1 w B G l A cap) : Gs w0 w B G l A cap:=⟨h.g,h.o,h0.trans h.b,f0.trans h.f⟩
theorem Gs.push (h : Gs w0 w B G l A cap) (hB : B ≤ w.heap.size) (hG : B ≤ G) {x : Gain} {g5 cap5 : Nat} (ho : Ow w' B 79 4 (.slice (some ⟨g5,0,none⟩) (l.length + 1) cap5) (l.map Gain.cells ++ [x.cells])) (hg : w.grownBy w' (Value.slice A l.length cap).ownBlock) : Gs w0 (w'.setCell ⟨G,0,none⟩ (.slice (some ⟨g5,0,none⟩) (l.length + 1) cap5)) B G (l ++ [x]) (some ⟨g5,0,none⟩) cap5:=by
 have hg' : w'.heap[G]? = some (.cells #[.slice A l.length cap] 24 (0,0)):=zqe hg (h.o.ne_ h.g (by decide)) h.g
 have hb : Below B w0 w':=h.b.grown hg hB (fun k e => (h.o.block k e).1)
 refine ⟨?_,?_,hb.setCell hG _,(h.f.grown h.o (by simp) hg).set hg' (by simp) _⟩
 ·
  rw [List.length_append,List.length_singleton]
  exact zqa hg'
 rw [List.length_append,List.length_singleton,List.map_append]
 exact ho.aside hg' (by decide) _
theorem Gs.cell {g k j : Nat} {u : Value} (h : Gs w0 w B G l (some ⟨g,0,none⟩) cap) (hk : k < l.length) (hj : j < 4) {x : Gain} (hx : l[k].cells.set j u = x.cells) : Gs w0 (w.setCell ⟨g,k * 4 + j,none⟩ u) B G (l.set k x) (some ⟨g,0,none⟩) cap:=by
 have hr : (l.map Gain.cells)[k]? = some l[k].cells:=by rw [List.getElem?_map,List.getElem?_eq_getElem hk];rfl
 have ho:=h.o.stored hr (j:=j) hj u
 obtain ⟨hb,_⟩:=h.o.block g rfl
 have hne : G ≠ g:=fun e => h.o.ne_ h.g (by decide) (by rw [e];rfl)
 refine ⟨?_,?_,h.b.setCell hb _,?_⟩
 ·
  rw [List.length_set]
  exact zqb hne h.g
 ·
  rw [List.length_set,List.map_set,← hx]
  exact ho
 intro k' cs t h1 h2
 refine h.f.grown h.o (by simp) (w'':=w.setCell ⟨g,k * 4 + j,none⟩ u) (zqg (World.grownBy.refl w (some g)) _ u) k' cs t h1 h2
end
theorem seat_in {l : List Gain} {ch : Int} : gIx l ch < (seatG l ch).length:=by
 unfold seatG
 split
 ·
  rename_i h;rw [List.length_append,List.length_singleton];omega
 rename_i h
 have : gIx l ch ≤ l.length:=by
  unfold gIx
  cases hf : l.findIdx? fun x => x.Ch == ch with
  | none => exact Nat.le_refl _
  | some i => exact Nat.le_of_lt (List.findIdx?_eq_some_iff_getElem.1 hf).1
 omega
theorem modify_set {l : List Gain} {i : Nat} (h : i < l.length) (f : Gain → Gain) : l.modify i f = l.set i (f l[i]):=by
 refine List.ext_getElem (by simp) fun j h1 h2 => ?_
 rw [List.getElem_modify,List.getElem_set]
 by_cases hij : i = j
 ·
  subst hij
  simp
 rw [if_neg hij,if_neg hij]
theorem putG_set (l : List Gain) (h : Htlc) (good : Bool) : putG l h good = (seatG l h.Out).set (gIx l h.Out) (bumpG h good ((seatG l h.Out)[gIx l h.Out]'seat_in)):=by
 unfold putG
 exact modify_set seat_in _
theorem gIx_at {l : List Gain} {ch : Int} {k : Nat} (hk : k < l.length) (h1 : ∀ j (hj : j < l.length),j < k → l[j].Ch ≠ ch) (h2 : l[k].Ch = ch) : gIx l ch = k:=by
 have : l.findIdx? (fun x => x.Ch == ch) = some k:=by
  rw [List.findIdx?_eq_some_iff_getElem]
  exact ⟨hk,by simp [h2],fun j hj => by simpa using h1 j (by omega) hj⟩
 unfold gIx
 rw [this]
 rfl
theorem gIx_end {l : List Gain} {ch : Int} (h1 : ∀ j (hj : j < l.length),j < l.length → l[j].Ch ≠ ch) : gIx l ch = l.length:=gIx_none fun x hx => by
 obtain ⟨j,hj,rfl⟩:=List.mem_iff_getElem.1 hx
 exact h1 j hj hj
theorem zkn {B : Nat} {w w' : World} {bb i : Nat} {v : Value} (hb : Below B w w') (hl : bb < B) (h : w.cell? ⟨bb,i,none⟩ = some v) : w'.cell? ⟨bb,i,none⟩ = some v:=(World.cell?_of_block (a:=⟨bb,i,none⟩) (hb.block bb hl)).trans h
theorem zho : (Tryz.prog.info? 79).map (fun i => (i.zero,i.size,i.bytes)) = some (some (.agg #[.int .i64 0,.int .i64 0,.int .i64 0,.int .i64 0]),4,32):=by kernel_rfl
set_option maxRecDepth 100000 in
set_option maxHeartbeats 4000000 in
theorem i_Gn1 (B G : Nat) (b : Bk) (C1 C2 C3 : Option Addr) (q1 q2 q3 : Nat) (e : Event) (l : List Gain) (A : Option Addr) (cap : Nat) (w : World) (hG : B ≤ G) (hB : B ≤ w.heap.size) (hlh : b.hs.length ≤ 1048576) (hll : l.length ≤ 1048576) (hr : RdBook w w.heap.size C1 b.cs C2 b.hs C3 b.os) (hgs : Gs w w B G l A cap)
  (hf : e.Kind = 6 ∨ e.Kind = 7 → ∃ i : Nat,∃ h : i < b.hs.length,hAt b.hs e.Key = (i : Int)∧htlcF b.hs e.Key = some b.hs[i]∧(0 ≤ b.hs[i].AmtIn∧b.hs[i].AmtIn ≤ 1125899906842624)∧(0 ≤ b.hs[i].AmtOut∧b.hs[i].AmtOut ≤ 1125899906842624)) :
  Calls Tryz.prog 34 #[.agg #[.int .i64 b.t,.int .i64 b.n,.int .i64 b.w,.slice C1 b.cs.length q1,.slice C2 b.hs.length q2,.slice C3 b.os.length q3],.agg #[.int .i64 e.Kind,.int .i64 e.Key,.int .i64 e.Ch,.int .i64 e.To,.int .i64 e.Amt,.int .i64 e.Fee,.bool e.Yes],.pointer (some ⟨G,0,none⟩)] w fun e' w' => e' = .returned (.tuple #[])∧∃ A' cap',Gs w w' B G (putEv b.hs e l) A' cap':=by
 obtain ⟨i0,hi,hz0,hz1,hz2⟩:=info_parts zho
 have HI0:=hd_ hi
 have HI1:=hd_ hz0
 have HI2:=hd_ hz1
 have HI3:=hd_ hz2
 clear hi hz0 hz1 hz2
 have HRd:=hd_ hr
 have HGS:=hd_ hgs
 have HFI:=hd_ hf
 clear hr hgs hf
 cases t67 : (e.Kind == 6 || e.Kind == 7)
 ·
  have t6 : (e.Kind == 6) = false:=by cases h9 : (e.Kind == 6) <;> simp_all
  have t7 : (e.Kind == 7) = false:=by cases h9 : (e.Kind == 7) <;> simp_all
  have HPE : Hid (putEv b.hs e l = l):=hd_ (by
   unfold putEv
   split
   ·
    rw [if_neg (beq_eq_false_iff_ne.1 t6),if_neg (beq_eq_false_iff_ne.1 t7)]
   rfl)
  go_enter Tryz.func34,Tryz.ntmps34
  go_upto_region 1 with fail
  refine nm_ ?_
  intro w1 hw
  obtain ⟨KB,hKB⟩ : ∃ v,v = w.heap.size:=⟨_,rfl⟩
  obtain ⟨MB,hMB⟩ : ∃ v,v = w.heap.size + 1:=⟨_,rfl⟩
  have HK1 : Hid (Hx w1 KB (bkC b C1 q1 C2 q2 C3 q3) 39):=hd_ (by rw [hw,hKB];exact zqd (by simp) (zqi rfl))
  have HM_w1 : Hid (Hx w1 MB (evC e) 64):=hd_ (by rw [hw,hMB];exact zqi (by first | rfl | (simp;done)))
  have HB_w1 : Hid (Below w.heap.size w w1):=hd_ (by rw [hw];exact ((Below.refl _ _).alloc (Nat.le_refl _) _).alloc (by simp) _)
  have HKM : Hid (w.heap.size ≤ KB∧w.heap.size ≤ MB):=hd_ ⟨by omega,by omega⟩
  try rw [← hMB]
  try rw [← hKB]
  clear hw hKB hMB
  have jK:=bd6_ HK1
  have M:=bd7_ HM_w1
  have n6 : (e.Kind != 6) = true:=by simp [bne,t6]
  have n7 : (e.Kind != 7) = true:=by simp [bne,t7]
  clear t67
  go_wp2_with fail
  refine bodyPost_ret (v:=.tuple #[]) (by simp [results,Tryz.results34,go_sem]) rfl ?_
  rw [HPE.out]
  exact ⟨rfl,A,cap,HGS.out.below hB HB_w1.out⟩
 have hk67 : e.Kind = 6 ∨ e.Kind = 7:=by
  rcases (Bool.or_eq_true _ _).mp t67 with h9 | h9
  ·
   exact .inl (eq_of_beq h9)
  exact .inr (eq_of_beq h9)
 obtain ⟨i,hlt,hix,hfi,ha1,ha2⟩:=HFI.out hk67
 have HKD:=hd_ hk67
 have HFIND:=hd_ hfi
 have HIX:=hd_ hix
 have HA1:=hd_ ha1
 have HA2:=hd_ ha2
 clear hix hfi ha1 ha2 hk67 t67
 have jx0 : (0 : Int) ≤ (i : Int):=by omega
 have jx1 : (i : Int) < (b.hs.length : Int):=by omega
 obtain ⟨bb,off,hA,hbb,r0,r1,r2,r3,r4,r5,r6⟩:=Htlc.rd HRd.out.h hlt
 subst hA
 have HROW : Hid (∀ W,Below w.heap.size w W → W.cell? ⟨bb,off + i * 7,none⟩ = some (.int .i64 b.hs[i].Key)∧W.cell? ⟨bb,off + i * 7 + 1,none⟩ = some (.int .i64 b.hs[i].In)∧W.cell? ⟨bb,off + i * 7 + 2,none⟩ = some (.int .i64 b.hs[i].Out)∧W.cell? ⟨bb,off + i * 7 + 3,none⟩ = some (.int .i64 b.hs[i].AmtIn)∧W.cell? ⟨bb,off + i * 7 + 4,none⟩ = some (.int .i64 b.hs[i].AmtOut)∧W.cell? ⟨bb,off + i * 7 + 5,none⟩ = some (.bool b.hs[i].Kept)∧W.cell? ⟨bb,off + i * 7 + 6,none⟩ = some (.int .i64 b.hs[i].Age)):=hd_ (fun W hW => ⟨zkn hW hbb r0,zkn hW hbb r1,zkn hW hbb r2,zkn hW hbb r3,zkn hW hbb r4,zkn hW hbb r5,zkn hW hbb r6⟩)
 clear r0 r1 r2 r3 r4 r5 r6 hbb
 go_enter Tryz.func34,Tryz.ntmps34
 go_upto_region 1 with fail
 refine nm_ ?_
 intro w1 hw
 obtain ⟨KB,hKB⟩ : ∃ v,v = w.heap.size:=⟨_,rfl⟩
 obtain ⟨MB,hMB⟩ : ∃ v,v = w.heap.size + 1:=⟨_,rfl⟩
 have HK1 : Hid (Hx w1 KB (bkC b C1 q1 (some ⟨bb,off,none⟩) q2 C3 q3) 39):=hd_ (by rw [hw,hKB];exact zqd (by simp) (zqi rfl))
 have HM_w1 : Hid (Hx w1 MB (evC e) 64):=hd_ (by rw [hw,hMB];exact zqi (by first | rfl | (simp;done)))
 have HB_w1 : Hid (Below w.heap.size w w1):=hd_ (by rw [hw];exact ((Below.refl _ _).alloc (Nat.le_refl _) _).alloc (by simp) _)
 have HKM : Hid (w.heap.size ≤ KB∧w.heap.size ≤ MB):=hd_ ⟨by omega,by omega⟩
 try rw [← hMB]
 try rw [← hKB]
 clear hw hKB hMB
 go_cut [14] from 7 to 14 (fun v wx => v = .bool false∧wx = w1)
 case first =>
  have jK:=bd6_ HK1
  have M:=bd7_ HM_w1
  cases t6 : (e.Kind == 6)
  ·
   have n6 : (e.Kind != 6) = true:=by simp [bne,t6]
   have n7 : (e.Kind != 7) = false:=by
    rcases HKD with h9 | h9
    ·
     rw [h9] at t6;exact absurd t6 (by decide)
    rw [h9];rfl
   go_wp2_with fail
   go_meet
   case rel => exact ⟨rfl,rfl⟩
  have n6 : (e.Kind != 6) = false:=by simp [bne,t6]
  go_wp2_with fail
  go_meet
  case rel => exact ⟨rfl,rfl⟩
 case rest =>
  obtain ⟨rfl,rfl⟩:=hcut
  go_upto_region 2 with fail
  refine nm_ ?_
  intro w2 hw
  have HK2 : Hid (Hx w2 KB (bkC b C1 q1 (some ⟨bb,off,none⟩) q2 C3 q3) 39):=hd_ (by rw [hw];exact HK1)
  have HM_w2 : Hid (Hx w2 MB (evC e) 64):=hd_ (by rw [hw];exact HM_w1)
  have HB_w2 : Hid (Below w.heap.size w w2):=hd_ (by rw [hw];exact HB_w1)
  clear hw
  refine meet (α:=Nat) (F:=fun HB w5 => Hid (Below w.heap.size w w5)∧Hid (Hx w5 MB (evC e) 64)∧Hid (Hx w5 HB (qaiiiiibi (b.hs[i].Key) (b.hs[i].In) (b.hs[i].Out) (b.hs[i].AmtIn) (b.hs[i].AmtOut) (b.hs[i].Kept) (b.hs[i].Age)) 70)∧Hid (w.heap.size ≤ HB)) (G:=?G6) (fun key => ?br6) ?rest6
  case br6 =>
   have jK:=bd6_ HK2
   have M:=bd7_ HM_w2
   obtain ⟨r0,r1,r2,r3,r4,r5,r6⟩:=HROW.out w2 HB_w2
   refine zvk (fun w' => kqiiisss w' KB b.t b.n b.w C1 b.cs.length q1 (some ⟨bb,off,none⟩) b.hs.length q2 C3 b.os.length q3 (kqE w' MB e (kqiiiiibio_ w' bb (off + i * 7) (b.hs[i].Key) (b.hs[i].In) (b.hs[i].Out) (b.hs[i].AmtIn) (b.hs[i].AmtOut) (b.hs[i].Kept) (b.hs[i].Age)))) [yF 0 15,yF 1 16,yF 2 17,yF 3 18,yF 4 19] [yT 5 20,yF 6 21,yF 7 22,yT 8 5,yN 9] [yT 8 5,yT 5 20,yF 6 21,yF 7 22,yN 9] (by kernel_rfl) (by kernel_rfl) (by kernel_rfl) (q6_ jK (q7_ M ⟨r0,r1,r2,r3,r4,r5,r6⟩)) (fun hH => ?_)
   obtain ⟨w3,hwd⟩ : ∃ wd,w2.drew = wd:=⟨_,rfl⟩
   have HK3:=hr_ hwd HK2
   have HM_w3:=hr_ hwd HM_w2
   have HB_w3:=bld_ hwd HB_w2
   clear jK M r0 r1 r2 r3 r4 r5 r6
   rw [hwd] at hH ⊢
   clear hwd
   have jK:=bd6_ HK3
   have M:=bd7_ HM_w3
   obtain ⟨r0,r1,r2,r3,r4,r5,r6⟩:=HROW.out w3 HB_w3
   refine tk_ ?_
   refine Sq.done ⟨?_,?_⟩
   ·
    refine ss_ (fun K hK => ?_)
    go_simp
    refine (zya b.t b.n b.w b.cs b.hs b.os _ _ _ _ _ _ e.Key _ hlh ((HRd.out.below HB_w3).more HB_w3.out.size)).mono ?_
    rintro e' w4 ⟨rfl,hb⟩
    rw [HIX.out]
    have HK4 : Hid (Hx w4 KB (bkC b C1 q1 (some ⟨bb,off,none⟩) q2 C3 q3) 39):=hd_ (zqr hb (gz_ HK3).1 HK3)
    have HM_w4 : Hid (Hx w4 MB (evC e) 64):=hd_ (zqr hb (gz_ HM_w3).1 HM_w3)
    have HB_w4 : Hid (Below w.heap.size w w4):=hd_ (HB_w3.out.trans (hb.mono HB_w3.out.size))
    clear jK M r0 r1 r2 r3 r4 r5 r6
    clear hb
    have jK:=bd6_ HK4
    have M:=bd7_ HM_w4
    obtain ⟨r0,r1,r2,r3,r4,r5,r6⟩:=HROW.out w4 HB_w4
    go_simp
    refine hK.out _ _ (q6_ jK (q7_ M ⟨r0,r1,r2,r3,r4,r5,r6⟩)) (fun hH => ?_)
    clear hK K
    refine tk_ ?_
    refine ss_ (fun K hK => ?_)
    go_simp
    refine zxu (fun w5 hw => ?_)
    obtain ⟨HB,hC⟩ : ∃ C,C = w4.heap.size:=⟨_,rfl⟩
    rw [← hC]
    have HK5:=ha_ hw HK4
    have HM_w5:=ha_ hw HM_w4
    have HB_w5 : Hid (Below w.heap.size w w5):=hd_ (by rw [hw];exact HB_w4.out.alloc HB_w4.out.size _)
    clear jK M r0 r1 r2 r3 r4 r5 r6
    have HGH : Hid (w.heap.size ≤ HB∧MB ≠ HB∧KB ≠ HB):=hd_ ⟨by have:=HB_w4.out.size;omega,by have:=(gz_ HM_w4).1;omega,by have:=(gz_ HK4).1;omega⟩
    have HH_w5 : Hid (Hx w5 HB (qaiiiiibi 0 0 0 0 0 false 0) 70):=hd_ (by rw [hw,hC];exact zqi rfl)
    clear hw hC
    have jK:=bd6_ HK5
    have M:=bd7_ HM_w5
    have H:=bd7_ HH_w5
    obtain ⟨r0,r1,r2,r3,r4,r5,r6⟩:=HROW.out w5 HB_w5
    go_simp
    refine hK.out _ _ (q6_ jK (q7_ M ⟨r0,r1,r2,r3,r4,r5,r6⟩)) (fun hH => ?_)
    clear hK K
    refine tk_ ?_
    have cf9:=zqm HH_w5
    refine ss_ (fun K hK => ?_)
    go_simp
    refine zxu (fun w6 hw => ?_)
    have HH_w6 : Hid (Hx w6 HB (qaiiiiibi (b.hs[i].Key) (b.hs[i].In) (b.hs[i].Out) (b.hs[i].AmtIn) (b.hs[i].AmtOut) (b.hs[i].Kept) (b.hs[i].Age)) 70):=hd_ (by rw [hw];exact zqa (zqa (zqa (zqa (zqa (zqa (zqa (HH_w5.out))))))))
    have HM_w6 : Hid (Hx w6 MB (evC e) 64):=hd_ (by rw [hw];exact zqb HGH.out.2.1 (zqb HGH.out.2.1 (zqb HGH.out.2.1 (zqb HGH.out.2.1 (zqb HGH.out.2.1 (zqb HGH.out.2.1 (zqb HGH.out.2.1 (HM_w5.out))))))))
    have HK6 : Hid (Hx w6 KB (bkC b C1 q1 (some ⟨bb,off,none⟩) q2 C3 q3) 39):=hd_ (by rw [hw];exact zqb HGH.out.2.2 (zqb HGH.out.2.2 (zqb HGH.out.2.2 (zqb HGH.out.2.2 (zqb HGH.out.2.2 (zqb HGH.out.2.2 (zqb HGH.out.2.2 (HK5.out))))))))
    have HB_w6 : Hid (Below w.heap.size w w6):=hd_ (by rw [hw];exact Below.setCell (Below.setCell (Below.setCell (Below.setCell (Below.setCell (Below.setCell (Below.setCell (HB_w5.out) HGH.out.1 _) HGH.out.1 _) HGH.out.1 _) HGH.out.1 _) HGH.out.1 _) HGH.out.1 _) HGH.out.1 _)
    clear jK M H r0 r1 r2 r3 r4 r5 r6
    clear hw cf9
    have jK:=bd6_ HK6
    have M:=bd7_ HM_w6
    have H:=bd7_ HH_w6
    obtain ⟨r0,r1,r2,r3,r4,r5,r6⟩:=HROW.out w6 HB_w6
    go_simp
    refine hK.out _ _ (q6_ jK (q7_ M ⟨r0,r1,r2,r3,r4,r5,r6⟩)) (fun hH => ?_)
    clear hK K
    refine Sq.done (NoPanic.normal ?_)
    exact key HB w6 ⟨HB_w6,HM_w6,HH_w6,hd_ HGH.out.1⟩
   refine ss_ (fun K hK => ?_)
   go_simp
   refine zxu (fun w4 hw => ?_)
   obtain ⟨HB,hC⟩ : ∃ C,C = w3.heap.size:=⟨_,rfl⟩
   rw [← hC]
   have HK4:=ha_ hw HK3
   have HM_w4:=ha_ hw HM_w3
   have HB_w4 : Hid (Below w.heap.size w w4):=hd_ (by rw [hw];exact HB_w3.out.alloc HB_w3.out.size _)
   clear jK M r0 r1 r2 r3 r4 r5 r6
   have HGH : Hid (w.heap.size ≤ HB∧MB ≠ HB∧KB ≠ HB):=hd_ ⟨by have:=HB_w3.out.size;omega,by have:=(gz_ HM_w3).1;omega,by have:=(gz_ HK3).1;omega⟩
   have HH_w4 : Hid (Hx w4 HB (qaiiiiibi 0 0 0 0 0 false 0) 70):=hd_ (by rw [hw,hC];exact zqi rfl)
   clear hw hC
   have jK:=bd6_ HK4
   have M:=bd7_ HM_w4
   have H:=bd7_ HH_w4
   obtain ⟨r0,r1,r2,r3,r4,r5,r6⟩:=HROW.out w4 HB_w4
   go_simp
   refine hK.out _ _ (q6_ jK (q7_ M ⟨r0,r1,r2,r3,r4,r5,r6⟩)) (fun hH => ?_)
   clear hK K
   refine tk_ ?_
   refine ss_ (fun K hK => ?_)
   go_simp
   refine (zya b.t b.n b.w b.cs b.hs b.os _ _ _ _ _ _ e.Key _ hlh ((HRd.out.below HB_w4).more HB_w4.out.size)).mono ?_
   rintro e' w5 ⟨rfl,hb⟩
   rw [HIX.out]
   have HK5 : Hid (Hx w5 KB (bkC b C1 q1 (some ⟨bb,off,none⟩) q2 C3 q3) 39):=hd_ (zqr hb (gz_ HK4).1 HK4)
   have HM_w5 : Hid (Hx w5 MB (evC e) 64):=hd_ (zqr hb (gz_ HM_w4).1 HM_w4)
   have HH_w5 : Hid (Hx w5 HB (qaiiiiibi 0 0 0 0 0 false 0) 70):=hd_ (zqr hb (gz_ HH_w4).1 HH_w4)
   have HB_w5 : Hid (Below w.heap.size w w5):=hd_ (HB_w4.out.trans (hb.mono HB_w4.out.size))
   clear jK M H r0 r1 r2 r3 r4 r5 r6
   clear hb
   have jK:=bd6_ HK5
   have M:=bd7_ HM_w5
   have H:=bd7_ HH_w5
   obtain ⟨r0,r1,r2,r3,r4,r5,r6⟩:=HROW.out w5 HB_w5
   go_simp
   refine hK.out _ _ (q6_ jK (q7_ M ⟨r0,r1,r2,r3,r4,r5,r6⟩)) (fun hH => ?_)
   clear hK K
   refine tk_ ?_
   have cf9:=zqm HH_w5
   refine ss_ (fun K hK => ?_)
   go_simp
   refine zxu (fun w6 hw => ?_)
   have HH_w6 : Hid (Hx w6 HB (qaiiiiibi (b.hs[i].Key) (b.hs[i].In) (b.hs[i].Out) (b.hs[i].AmtIn) (b.hs[i].AmtOut) (b.hs[i].Kept) (b.hs[i].Age)) 70):=hd_ (by rw [hw];exact zqa (zqa (zqa (zqa (zqa (zqa (zqa (HH_w5.out))))))))
   have HM_w6 : Hid (Hx w6 MB (evC e) 64):=hd_ (by rw [hw];exact zqb HGH.out.2.1 (zqb HGH.out.2.1 (zqb HGH.out.2.1 (zqb HGH.out.2.1 (zqb HGH.out.2.1 (zqb HGH.out.2.1 (zqb HGH.out.2.1 (HM_w5.out))))))))
   have HK6 : Hid (Hx w6 KB (bkC b C1 q1 (some ⟨bb,off,none⟩) q2 C3 q3) 39):=hd_ (by rw [hw];exact zqb HGH.out.2.2 (zqb HGH.out.2.2 (zqb HGH.out.2.2 (zqb HGH.out.2.2 (zqb HGH.out.2.2 (zqb HGH.out.2.2 (zqb HGH.out.2.2 (HK5.out))))))))
   have HB_w6 : Hid (Below w.heap.size w w6):=hd_ (by rw [hw];exact Below.setCell (Below.setCell (Below.setCell (Below.setCell (Below.setCell (Below.setCell (Below.setCell (HB_w5.out) HGH.out.1 _) HGH.out.1 _) HGH.out.1 _) HGH.out.1 _) HGH.out.1 _) HGH.out.1 _) HGH.out.1 _)
   clear jK M H r0 r1 r2 r3 r4 r5 r6
   clear hw cf9
   have jK:=bd6_ HK6
   have M:=bd7_ HM_w6
   have H:=bd7_ HH_w6
   obtain ⟨r0,r1,r2,r3,r4,r5,r6⟩:=HROW.out w6 HB_w6
   go_simp
   refine hK.out _ _ (q6_ jK (q7_ M ⟨r0,r1,r2,r3,r4,r5,r6⟩)) (fun hH => ?_)
   clear hK K
   refine Sq.done (NoPanic.normal ?_)
   exact key HB w6 ⟨HB_w6,HM_w6,HH_w6,hd_ HGH.out.1⟩
  case rest6 =>
   intro HB v hF
   obtain ⟨HB_v,HM_v,HH_v,HGH⟩:=hF
   have HG_v : Hid (Gs w v B G l A cap):=hd_ (HGS.out.below hB HB_v)
   have hBv : B ≤ v.heap.size:=Nat.le_trans hB HB_v.out.size
   clear HK2 HM_w2 HB_w2 HK1 HM_w1 HB_w1 HROW HIX HKM
   obtain ⟨ho,hHO⟩ : ∃ v,v = b.hs[i].Out:=⟨_,rfl⟩
   have HHO:=hd_ hHO
   rw [← hHO] at HH_v
   clear hHO
   go_upto_region 3 with fail
   go_upto_block 0 with (fail)
   go_cut [6] from 23 to 38 (fun iv wx => iv = .int .i64 (gIx l ho : Nat)∧Hid (Gs w wx B G l A cap)∧Hid (B ≤ wx.heap.size)∧Hid (Hx wx MB (evC e) 64)∧Hid (Hx wx HB (qaiiiiibi (b.hs[i].Key) (b.hs[i].In) ho (b.hs[i].AmtIn) (b.hs[i].AmtOut) (b.hs[i].Kept) (b.hs[i].Age)) 70))
   case first =>
    go_wp2_with fail
    go_loopw [6] (fun iv wr => ∃ j : Nat,j ≤ l.length∧iv = .int .i64 j∧Hid (∀ q (hq : q < l.length),q < j → l[q].Ch ≠ ho)∧Hid (Gs w wr B G l A cap)∧Hid (B ≤ wr.heap.size)∧Hid (Hx wr MB (evC e) 64)∧Hid (Hx wr HB (qaiiiiibi (b.hs[i].Key) (b.hs[i].In) ho (b.hs[i].AmtIn) (b.hs[i].AmtOut) (b.hs[i].Kept) (b.hs[i].Age)) 70)) (fun iv _ => l.length - (intOf iv).toNat)
    case atStart => exact ⟨0,Nat.zero_le _,rfl,hd_ (fun q hq h9 => absurd h9 (Nat.not_lt_zero _)),HG_v,hd_ hBv,HM_v,HH_v⟩
    case round =>
     clear HG_v HM_v HH_v HB_v hBv
     obtain ⟨j,hj,rfl,HN,HG,HBR,HM,HH⟩:=hrel
     have g0 : wr.cell? ⟨G,0,none⟩ = some (.slice A l.length cap):=zqc HG.out.g 0
     have h2 : wr.cell? ⟨HB,2,none⟩ = some (.int .i64 ho):=zqc HH 2
     by_cases hjl : j < l.length
     rotate_left
     ·
      obtain rfl : j = l.length:=by omega
      have jd : decide ((l.length : Int) < (l.length : Int)) = false:=decide_eq_false (by omega)
      go_wp2_with fail
      refine zql (fun w' => kqs w' G A l.length cap (kqio_ w' HB 2 ho)) [yF 0 23,yF 1 24,yF 2 25,yF 3 26,yF 4 27,yG 5 28 27,yG 6 29 27,yG 7 30 27,yG 8 31 27,yG 9 32 27,yG 10 33 27,yG 11 34 27,yG 12 35 27,yF 13 36] (by kernel_rfl) (by kernel_rfl) (by kernel_rfl) ⟨g0,h2⟩ (fun hH => ?_)
      obtain ⟨wd,hwd⟩ : ∃ wd,wr.drew = wd:=⟨_,rfl⟩
      have HGd : Hid (Gs w wd B G l A cap):=hd_ (by rw [← hwd];exact HG.out.drew)
      have HBd : Hid (B ≤ wd.heap.size):=hd_ (by rw [← hwd];exact HBR)
      have HMd:=hr_ hwd HM
      have HHd:=hr_ hwd HH
      rw [hwd] at hH ⊢
      clear hwd
      refine tk_ ?_
      refine Sq.done (NoPanic.normal ?_)
      go_wp2_with fail
      go_meet
      case rel => exact ⟨by rw [gIx_end (fun q hq h9 => HN.out q hq h9)],HGd,HBd,HMd,HHd⟩
     obtain ⟨g,hA,-⟩:=HG.out.o.headW (by rw [List.length_map];omega)
     subst hA
     have gc : wr.cell? ⟨g,j * 4,none⟩ = some (.int .i64 l[j].Ch):=HG.out.o.cellAt (show (l.map Gain.cells)[j]? = some l[j].cells by rw [List.getElem?_map,List.getElem?_eq_getElem hjl];rfl) (j:=0) (by decide)
     have j0 : (0 : Int) ≤ (j : Int):=by omega
     have j1 : (j : Int) < (l.length : Int):=by omega
     have jd : decide ((j : Int) < (l.length : Int)) = true:=decide_eq_true j1
     obtain ⟨c,hc⟩ : ∃ c,c = l[j].Ch:=⟨_,rfl⟩
     have HC:=hd_ hc
     rw [← hc] at gc
     clear hc
     cases tc : (c == ho)
     ·
      have tn : (c != ho) = true:=by simp [bne,tc]
      go_wp2_with fail
      refine zql (fun w' => kqs w' G (some ⟨g,0,none⟩) l.length cap (kqio w' HB 2 ho (kqio_ w' g (j * 4) c))) [yF 0 23,yF 1 24,yF 2 25,yF 3 26,yF 4 27,yG 5 28 27,yG 6 29 27,yG 7 30 27,yG 8 31 27,yG 9 32 27,yG 10 33 27,yG 11 34 27,yG 12 35 27,yF 13 36] (by kernel_rfl) (by kernel_rfl) (by kernel_rfl) ⟨g0,h2,gc⟩ (fun hH => ?_)
      obtain ⟨wd,hwd⟩ : ∃ wd,wr.drew = wd:=⟨_,rfl⟩
      have HGd : Hid (Gs w wd B G l (some ⟨g,0,none⟩) cap):=hd_ (by rw [← hwd];exact HG.out.drew)
      have HBd : Hid (B ≤ wd.heap.size):=hd_ (by rw [← hwd];exact HBR)
      have HMd:=hr_ hwd HM
      have HHd:=hr_ hwd HH
      rw [hwd] at hH ⊢
      clear hwd
      refine tk_ ?_
      refine Sq.done (NoPanic.normal ?_)
      go_wp2_with fail
      go_roundw
      case rel => exact ⟨j + 1,by omega,by go_num,hd_ (fun q hq h9 => by
       by_cases hqj : q < j
       ·
        exact HN q hq hqj
       obtain rfl : q = j:=by omega
       rw [← HC.out]
       exact beq_eq_false_iff_ne.1 tc),HGd,HBd,HMd,HHd⟩
      case measure => simp [intOf];omega
     have tn : (c != ho) = false:=by simp [bne,tc]
     go_wp2_with fail
     refine zql (fun w' => kqs w' G (some ⟨g,0,none⟩) l.length cap (kqio w' HB 2 ho (kqio_ w' g (j * 4) c))) [yF 0 23,yF 1 24,yF 2 25,yF 3 26,yF 4 27,yG 5 28 27,yG 6 29 27,yG 7 30 27,yG 8 31 27,yG 9 32 27,yG 10 33 27,yG 11 34 27,yG 12 35 27,yF 13 36] (by kernel_rfl) (by kernel_rfl) (by kernel_rfl) ⟨g0,h2,gc⟩ (fun hH => ?_)
     obtain ⟨wd,hwd⟩ : ∃ wd,wr.drew = wd:=⟨_,rfl⟩
     have HGd : Hid (Gs w wd B G l (some ⟨g,0,none⟩) cap):=hd_ (by rw [← hwd];exact HG.out.drew)
     have HBd : Hid (B ≤ wd.heap.size):=hd_ (by rw [← hwd];exact HBR)
     have HMd:=hr_ hwd HM
     have HHd:=hr_ hwd HH
     rw [hwd] at hH ⊢
     clear hwd
     refine tk_ ?_
     refine Sq.done (NoPanic.normal ?_)
     go_wp2_with fail
     go_meet
     case rel => exact ⟨by rw [gIx_at hjl (fun q hq h9 => HN.out q hq h9) (by rw [← HC.out];exact eq_of_beq tc)],HGd,HBd,HMd,HHd⟩
   case rest =>
    obtain ⟨rfl,HG_c,HBc,HM_c,HH_c⟩:=hcut
    clear HG_v HM_v HH_v HB_v hBv
    obtain ⟨k,hk⟩ : ∃ k,k = gIx l ho:=⟨_,rfl⟩
    have HK:=hd_ hk
    rw [← hk]
    clear hk
    have g0 : wc.cell? ⟨G,0,none⟩ = some (.slice A l.length cap):=zqc HG_c.out.g 0
    obtain ⟨tb,htb⟩ : ∃ tb : Bool,((k : Int) == (l.length : Int)) = tb:=⟨_,rfl⟩
    go_upto_if 42 with fail
    have HTB:=hd_ htb
    clear g0 htb
    go_cut [] from 43 to 48 (fun wx => ∃ A' cap',Hid (Gs w wx B G (seatG l ho) A' cap')∧Hid (B ≤ wx.heap.size)∧Hid (Hx wx MB (evC e) 64)∧Hid (Hx wx HB (qaiiiiibi (b.hs[i].Key) (b.hs[i].In) ho (b.hs[i].AmtIn) (b.hs[i].AmtOut) (b.hs[i].Kept) (b.hs[i].Age)) 70))
    case first =>
     have g0 : wc.cell? ⟨G,0,none⟩ = some (.slice A l.length cap):=zqc HG_c.out.g 0
     have gf:=zqm HG_c.out.g
     have gz:=(gz_ HG_c.out.g).1
     have h2 : wc.cell? ⟨HB,2,none⟩ = some (.int .i64 ho):=zqc HH_c 2
     cases tb
     rotate_left
     ·
      have hkl : k = l.length:=by have:=eq_of_beq HTB.out;omega
      have HSE : Hid (seatG l ho = l ++ [⟨ho,0,0,0⟩]):=hd_ (by unfold seatG;rw [← HK.out,if_pos hkl])
      clear hkl
      go_wp2_with (at_builtin;refine Stop.go ?_)
      refine Stop.on ?_
      refine nl_ (fun wq hw => ?_)
      obtain ⟨ZC,hZC⟩ : ∃ v,v = wc.heap.size:=⟨_,rfl⟩
      have HGq:=hd_ (show Gs w wq B G l A cap by rw [hw];exact HG_c.out.alloc HBc _)
      have HBq : Hid (B ≤ wq.heap.size):=hd_ (by rw [hw];simp;have:=HBc.out;omega)
      have HMq:=ha_ hw HM_c
      have HHq:=ha_ hw HH_c
      have HZq : Hid (Hx wq ZC (qaiiii ho 0 0 0) 79):=hd_ (by rw [hw,hZC];exact zqi (by first | rfl | (simp;done)))
      clear hw g0 gf gz h2
      try rw [← hZC]
      clear hZC
      refine zqz rfl _ _ _ rfl B 79 i0 _ 4 32 Tryz.underlying24 HI0 HI1 HI2 HI3 rfl (by decide) (.slice A l.length cap) (l.map Gain.cells) (by first | rfl | (rw [List.length_map];rfl)) HGq.out.o ZC 1 [.int .i64 ho,.int .i64 0,.int .i64 0,.int .i64 0] 79 (by rfl) HZq rfl (by simp [Value.oneCell']) (by rw [List.length_map];omega) (by decide) HBq ?_
      intro g5 cap5 x5 how5 hgr5 hat5 hlt5
      rw [List.length_map] at how5
      have HG5:=hd_ (HGq.out.push HBq hG (x:=⟨ho,0,0,0⟩) how5 hgr5)
      have hg5:=zqe hgr5 (HGq.out.o.ne_ HGq.out.g (by decide)) HGq.out.g
      have HM5:=hd_ (zqe hgr5 (HGq.out.o.ne_ HMq (by decide)) HMq)
      have HH5:=hd_ (zqe hgr5 (HGq.out.o.ne_ HHq (by decide)) HHq)
      have HB5 : Hid (B ≤ x5.heap.size):=hd_ (Nat.le_trans HBq hgr5.size)
      have HNG : Hid (MB ≠ G∧HB ≠ G):=hd_ ⟨fun e9 => by have h8:=HM5.out;rw [e9,hg5] at h8;injection h8 with h8;injection h8 with _ h8;exact absurd h8 (by decide),fun e9 => by have h8:=HH5.out;rw [e9,hg5] at h8;injection h8 with h8;injection h8 with _ h8;exact absurd h8 (by decide)⟩
      have g0 : x5.cell? ⟨G,0,none⟩ = some (.slice A l.length cap):=zqc hg5 0
      have gf:=zqm hg5
      have gz:=(gz_ hg5).1
      clear how5 hgr5 hat5 hlt5 HGq HBq HMq HHq HZq
      try rw [List.length_map]
      go_wp2_with fail
      go_meet
      case rel => exact ⟨some ⟨g5,0,none⟩,cap5,by rw [HSE.out];exact HG5,hd_ (by simp;exact HB5),hd_ (zqb HNG.out.1 HM5),hd_ (zqb HNG.out.2 HH5)⟩
     have hkl : ¬ k = l.length:=fun e9 => by have:=beq_eq_false_iff_ne.1 HTB.out;omega
     have HSE : Hid (seatG l ho = l):=hd_ (by unfold seatG;rw [← HK.out,if_neg hkl])
     go_wp2_with fail
     go_meet
     case rel => exact ⟨A,cap,by rw [HSE.out];exact HG_c,HBc,HM_c,HH_c⟩
    case rest =>
     obtain ⟨A',cap',HG_d,HBd,HM_d,HH_d⟩:=hcut
     clear HG_c HBc HM_c HH_c
     obtain ⟨m,hm⟩ : ∃ m,m = seatG l ho:=⟨_,rfl⟩
     have HMM:=hd_ hm
     have hkm : k < m.length:=by rw [hm,HK.out];exact seat_in
     rw [← hm] at HG_d
     clear hm
     obtain ⟨g,hA,-⟩:=HG_d.out.o.headW (by rw [List.length_map];omega)
     subst hA
     have k0 : (0 : Int) ≤ (k : Int):=by omega
     have k1 : (k : Int) < (m.length : Int):=by omega
     have hrow : (m.map Gain.cells)[k]? = some m[k].cells:=by rw [List.getElem?_map,List.getElem?_eq_getElem hkm];rfl
     cases t7 : (e.Kind == 7)
     rotate_left
     ·
      have h7:=eq_of_beq t7
      have HPE : Hid (putEv b.hs e l = putG l b.hs[i] false):=hd_ (by unfold putEv;rw [HFIND.out];simp only;rw [if_neg (by omega),if_pos h7])
      clear h7
      have HP : Hid (putG l b.hs[i] false = m.set k (bumpG b.hs[i] false m[k])):=hd_ (by have h9:=putG_set l b.hs[i] false;rw [h9];simp only [← HHO.out,← HK.out,← HMM.out])
      have g0 : wc.cell? ⟨G,0,none⟩ = some (.slice (some ⟨g,0,none⟩) m.length cap'):=zqc HG_d.out.g 0
      have m0 : wc.cell? ⟨MB,0,none⟩ = some (.int .i64 e.Kind):=zqc HM_d 0
      have c0 : wc.cell? ⟨g,k * 4,none⟩ = some (.int .i64 m[k].Ch):=HG_d.out.o.cellAt hrow (j:=0) (by decide)
      have c1 : wc.cell? ⟨g,k * 4 + 1,none⟩ = some (.int .i64 m[k].Fees):=HG_d.out.o.cellAt hrow (j:=1) (by decide)
      have c2 : wc.cell? ⟨g,k * 4 + 2,none⟩ = some (.int .i64 m[k].Count):=HG_d.out.o.cellAt hrow (j:=2) (by decide)
      have c3 : wc.cell? ⟨g,k * 4 + 3,none⟩ = some (.int .i64 m[k].Failed):=HG_d.out.o.cellAt hrow (j:=3) (by decide)
      have cf : ∀ i : Nat,wc.frozen? ⟨g,i,none⟩ = false:=fun i9 => by
       obtain ⟨cur9,hh9⟩:=HG_d.out.o.heapW
       exact zqm hh9 i9
      go_wp2_with fail
      refine bodyPost_ret (v:=.tuple #[]) (by simp [results,Tryz.results34,go_sem]) rfl ?_
      rw [HPE.out,HP.out]
      refine ⟨rfl,some ⟨g,0,none⟩,cap',?_⟩
      exact HG_d.out.cell (j:=3) (u:=.int .i64 (wrap64 (m[k].Failed + 1))) hkm (by decide) (by unfold bumpG wr;rw [if_neg (by decide)];simp [Gain.cells])
     have h6 : e.Kind = 6:=by
      rcases HKD with h9 | h9
      ·
       exact h9
      rw [h9] at t7;exact absurd t7 (by decide)
     have HPE : Hid (putEv b.hs e l = putG l b.hs[i] true):=hd_ (by unfold putEv;rw [HFIND.out];simp only;rw [if_pos h6])
     clear h6
     have HP : Hid (putG l b.hs[i] true = m.set k (bumpG b.hs[i] true m[k])):=hd_ (by have h9:=putG_set l b.hs[i] true;rw [h9];simp only [← HHO.out,← HK.out,← HMM.out])
     have g0 : wc.cell? ⟨G,0,none⟩ = some (.slice (some ⟨g,0,none⟩) m.length cap'):=zqc HG_d.out.g 0
     have m0 : wc.cell? ⟨MB,0,none⟩ = some (.int .i64 e.Kind):=zqc HM_d 0
     have c0 : wc.cell? ⟨g,k * 4,none⟩ = some (.int .i64 m[k].Ch):=HG_d.out.o.cellAt hrow (j:=0) (by decide)
     have c1 : wc.cell? ⟨g,k * 4 + 1,none⟩ = some (.int .i64 m[k].Fees):=HG_d.out.o.cellAt hrow (j:=1) (by decide)
     have c2 : wc.cell? ⟨g,k * 4 + 2,none⟩ = some (.int .i64 m[k].Count):=HG_d.out.o.cellAt hrow (j:=2) (by decide)
     have c3 : wc.cell? ⟨g,k * 4 + 3,none⟩ = some (.int .i64 m[k].Failed):=HG_d.out.o.cellAt hrow (j:=3) (by decide)
     have cf : ∀ i : Nat,wc.frozen? ⟨g,i,none⟩ = false:=fun i9 => by
      obtain ⟨cur9,hh9⟩:=HG_d.out.o.heapW
      exact zqm hh9 i9
     go_upto_region 11 with fail
     refine nm_ ?_
     intro we hw
     have HG_e : Hid (Gs w we B G (m.set k ⟨m[k].Ch,m[k].Fees,wr (m[k].Count + 1),m[k].Failed⟩) (some ⟨g,0,none⟩) cap'):=hd_ (by rw [hw];exact HG_d.out.cell (j:=2) (u:=.int .i64 (wrap64 (m[k].Count + 1))) hkm (by decide) (by unfold wr;simp [Gain.cells]))
     have HNG : Hid (MB ≠ g∧HB ≠ g):=hd_ ⟨fun e9 => HG_d.out.o.ne_ HM_d (by decide) (by rw [e9];rfl),fun e9 => HG_d.out.o.ne_ HH_d (by decide) (by rw [e9];rfl)⟩
     have HH_e:=hf_ hw HNG.out.2 HH_d
     clear hw g0 m0 c0 c1 c2 c3 cf hrow
     obtain ⟨m2,hm2⟩ : ∃ m2,m2 = m.set k ⟨m[k].Ch,m[k].Fees,wr (m[k].Count + 1),m[k].Failed⟩:=⟨_,rfl⟩
     have HM2:=hd_ hm2
     have hl2 : m2.length = m.length:=by rw [hm2,List.length_set]
     have hkm2 : k < m2.length:=by omega
     have he2 : m2[k] = ⟨m[k].Ch,m[k].Fees,wr (m[k].Count + 1),m[k].Failed⟩:=by simp only [hm2,List.getElem_set_self]
     rw [← hm2] at HG_e
     have HE2:=hd_ he2
     have k2 : (k : Int) < (m2.length : Int):=by omega
     clear hm2 hl2 he2 k1
     have g0 : we.cell? ⟨G,0,none⟩ = some (.slice (some ⟨g,0,none⟩) m2.length cap'):=zqc HG_e.out.g 0
     have h3 : we.cell? ⟨HB,3,none⟩ = some (.int .i64 b.hs[i].AmtIn):=zqc HH_e 3
     have h4 : we.cell? ⟨HB,4,none⟩ = some (.int .i64 b.hs[i].AmtOut):=zqc HH_e 4
     have c1 : we.cell? ⟨g,k * 4 + 1,none⟩ = some (.int .i64 m2[k].Fees):=HG_e.out.o.cellAt (show (m2.map Gain.cells)[k]? = some m2[k].cells by rw [List.getElem?_map,List.getElem?_eq_getElem hkm2];rfl) (j:=1) (by decide)
     have cf : ∀ i : Nat,we.frozen? ⟨g,i,none⟩ = false:=fun i9 => by
      obtain ⟨cur9,hh9⟩:=HG_e.out.o.heapW
      exact zqm hh9 i9
     have ws : IntKind.i64.wrap (b.hs[i].AmtIn - b.hs[i].AmtOut) = b.hs[i].AmtIn - b.hs[i].AmtOut:=IntWalk.i64_in _ ⟨by have:=HA1.out;have:=HA2.out;omega,by have:=HA1.out;have:=HA2.out;omega⟩
     refine zqs (fun w' => kqs w' G (some ⟨g,0,none⟩) m2.length cap' (kqio w' HB 3 (b.hs[i].AmtIn) (kqio w' HB 4 (b.hs[i].AmtOut) (kqio_ w' g (k * 4 + 1) (m2[k].Fees))))) [yF 0 68,yF 1 69,yF 2 70,yF 3 71,yF 4 72,yF 5 73,yF 6 74,yF 7 75,yF 8 76,yF 9 77,yF 10 78,yF 11 79,yF 12 80] rfl (by kernel_rfl) (by kernel_rfl) (by kernel_rfl) (by kernel_rfl) (by kernel_rfl) (by kernel_rfl) ⟨g0,h3,h4,c1⟩ (fun hH => ?_)
     obtain ⟨wf,hwd⟩ : ∃ wd,we.drew = wd:=⟨_,rfl⟩
     have HG_f : Hid (Gs w wf B G m2 (some ⟨g,0,none⟩) cap'):=hd_ (by rw [← hwd];exact HG_e.out.drew)
     rw [hwd] at hH ⊢
     clear hwd g0 h3 h4 c1 cf
     have cf : ∀ i : Nat,wf.frozen? ⟨g,i,none⟩ = false:=fun i9 => by
      obtain ⟨cur9,hh9⟩:=HG_f.out.o.heapW
      exact zqm hh9 i9
     have c1 : wf.cell? ⟨g,k * 4 + 1,none⟩ = some (.int .i64 m2[k].Fees):=HG_f.out.o.cellAt (show (m2.map Gain.cells)[k]? = some m2[k].cells by rw [List.getElem?_map,List.getElem?_eq_getElem hkm2];rfl) (j:=1) (by decide)
     refine tk_ ?_
     refine Sq.done ?_
     intro KK hKK
     go_simp
     refine hKK _ _ (NoPanic.normal ?_)
     refine nm_ ?_
     intro wg hw
     have HG_g : Hid (Gs w wg B G (m2.set k ⟨m2[k].Ch,IntKind.i64.wrap (m2[k].Fees + (b.hs[i].AmtIn - b.hs[i].AmtOut)),m2[k].Count,m2[k].Failed⟩) (some ⟨g,0,none⟩) cap'):=hd_ (by rw [hw];exact HG_f.out.cell (j:=1) (u:=.int .i64 (IntKind.i64.wrap (m2[k].Fees + (b.hs[i].AmtIn - b.hs[i].AmtOut)))) hkm2 (by decide) (by simp [Gain.cells]))
     clear hw cf c1
     go_wp2_with fail
     go_end0
     rw [HPE.out,HP.out]
     refine ⟨rfl,some ⟨g,0,none⟩,cap',?_⟩
     have hfin : m.set k (bumpG b.hs[i] true m[k]) = m2.set k ⟨m2[k].Ch,IntKind.i64.wrap (m2[k].Fees + (b.hs[i].AmtIn - b.hs[i].AmtOut)),m2[k].Count,m2[k].Failed⟩:=by
      rw [HE2.out,HM2.out,List.set_set]
      unfold bumpG wr
      rw [if_pos rfl,IntWalk.i64_left]
     rw [hfin]
     exact HG_g
end Go.Proofs.YtdbmkfmenfcbiaaGreat

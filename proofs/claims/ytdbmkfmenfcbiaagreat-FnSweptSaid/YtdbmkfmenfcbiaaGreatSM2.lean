/- ApB · BookPs · DrawM · BookO0 · DrawMb · EvS · ScS · Wk · SBusy · ScI · Wk2 · SCopy · SWk · Act · ICo · STick: each text proves what its theorems say, with no conditions but theirs. -/
import Derived.Test.YtdbmkfmenfcbiaaGreatRows
import Derived.Test.YtdbmkfmenfcbiaaGreatSM1
import Derived.Test.YtdbmkfmenfcbiaaGreatSDrawL
import Derived.Test.YtdbmkfmenfcbiaaGreatSBookPi
import Derived.Deep.QuietTactic
import Derived.BigQuiet
namespace Go.Proofs.YtdbmkfmenfcbiaaGreat
open Go
/-! ### lines -/
def lineTo (l : List Line) (k c a : Int) : List Line:=if a = 0 then l else addF ⟨k,c,a⟩ l
def nz (l : List Line) : List Line:=l.filter fun x => x.Amt != 0
theorem nz_nil : nz [] = []:=rfl
theorem zgy (x : Line) (l : List Line) : nz (x :: l) = if x.Amt = 0 then nz l else x :: nz l:=by
 unfold nz
 rw [List.filter_cons]
 by_cases h : x.Amt = 0 <;> simp [h]
theorem line2 {k c a k' c' a' : Int} (h : k < k') : lineTo (lineTo [] k c a) k' c' a' = nz [⟨k,c,a⟩,⟨k',c',a'⟩]:=by
 have h1 : lessB k c k' c' = true:=zvl.2 (Or.inl h)
 unfold lineTo
 simp only [zgy,nz_nil]
 by_cases h0 : a = 0 <;> by_cases h2 : a' = 0 <;> simp [h0,h2,addF,h1]
theorem line3 {k c a k' c' a' k2 c2 a2 : Int} (h : k < k') (h2 : k' < k2) : lineTo (lineTo (lineTo [] k c a) k' c' a') k2 c2 a2 = nz [⟨k,c,a⟩,⟨k',c',a'⟩,⟨k2,c2,a2⟩]:=by
 have h1 : lessB k' c' k2 c2 = true:=zvl.2 (Or.inl h2)
 have h3 : lessB k c k2 c2 = true:=zvl.2 (Or.inl (by omega))
 rw [line2 h]
 unfold lineTo
 simp only [zgy,nz_nil]
 by_cases e0 : a = 0 <;> by_cases e1 : a' = 0 <;> by_cases e2 : a2 = 0 <;> simp [e0,e1,e2,addF,h1,h3]
theorem zho (x : Line) : ∀ l : List Line,(∀ y ∈ l,¬(y.Kind = x.Kind∧y.Ch = x.Ch)) → mergeF l [x] = some (addF x l)
 | [],_ => by simp [mergeF,addF]
 | y :: l,h => by
  have hy:=h y (by simp)
  rw [mergeF,addF]
  by_cases h1 : lessB y.Kind y.Ch x.Kind x.Ch = true
  ·
   rw [if_pos h1,if_pos h1,zho x l (fun z hz => h z (by simp [hz]))]
   rfl
  ·
   rw [if_neg h1,if_neg h1,if_neg hy]
   have h2 : lessB x.Kind x.Ch y.Kind y.Ch = true:=by
    rw [Bool.not_eq_true,← Bool.not_eq_true,zvl] at h1
    rw [zvl]
    omega
   rw [if_pos h2]
   have h3 : ∀ m : List Line,mergeF m [] = some m:=by
    intro m
    induction m with
    | nil => simp [mergeF]
    | cons z m ih => rw [mergeF,ih];rfl
   rw [h3]
   rfl
/-! ### events -/
def evB (e : Event) : Bool :=
 if e.Kind = 1 then e.Key == 0 && e.Ch == 0 && e.To == 0 && inB e.Amt 1 1125899906842624 && e.Fee == 0 && !e.Yes
 else if e.Kind = 2 then e.Key == 0 && isChanB e.Ch && e.To == 0 && inB e.Amt 1 1125899906842624 && amtB e.Fee && !e.Yes
 else if e.Kind = 3 then e.Key == 0 && isChanB e.Ch && e.To == 0 && e.Amt == 0 && amtB e.Fee && !e.Yes
 else if e.Kind = 4 then e.Key == 0 && isChanB e.Ch && e.To == 0 && amtB e.Amt && inB e.Fee 0 1000000 && !e.Yes
 else if e.Kind = 5 then inB e.Key 1 1000000 && isChanB e.Ch && isChanB e.To && (e.Ch != e.To) && inB e.Amt 1 1125899906842624 && e.Fee == 0
 else if e.Kind = 8 then e.Key == 0 && e.Ch == 0 && e.To == 0 && e.Amt == 0 && e.Fee == 0 && !e.Yes
 else if e.Kind = 9 then inB e.Key 1 1000000 && isChanB e.Ch && isChanB e.To && (e.Ch != e.To) && inB e.Amt 1 1125899906842624 && amtB e.Fee && !e.Yes
 else if e.Kind = 6 ∨ e.Kind = 7 ∨ e.Kind = 10 ∨ e.Kind = 11 then inB e.Key 1 1000000 && e.Ch == 0 && e.To == 0 && e.Amt == 0 && e.Fee == 0 && !e.Yes
 else false
/-! ### pieces -/
def chan0 : Chan:=⟨0,0,0,0,0,0,0⟩
def chanOf (cs : List Chan) (ch : Int) : Chan:=cs.getD (chanIx cs ch).toNat chan0
def setCh (cs : List Chan) (ch : Int) (f : Chan → Chan) : List Chan:=cs.modify (chanIx cs ch).toNat f
def moveF (dl dr : Int) (c : Chan) : Chan:={ c with Local:=c.Local + dl,Remote:=c.Remote + dr }
def moveC (cs : List Chan) (ch dl dr : Int) : List Chan:=setCh cs ch (moveF dl dr)
def insC (c : Chan) (cs : List Chan) : List Chan:=cs.takeWhile (fun x => decide (x.Id < c.Id)) ++ c :: cs.dropWhile (fun x => decide (x.Id < c.Id))
def usesH (ch : Int) (h : Htlc) : Bool:=h.In == ch || h.Out == ch
def usesC (ch : Int) (c : Circle) : Bool:=c.From == ch || c.To == ch
def busyB (hs : List Htlc) (os : List Circle) (ch : Int) : Bool:=hs.any (usesH ch) || os.any (usesC ch)
def fewH (ch n : Int) (h : Htlc) : Int:=if (h.Out == ch) = true then (if h.Kept = true then n else n + h.AmtOut) else n
def slotH (ch n : Int) (h : Htlc) : Int:=if (h.Out == ch) = true then n + 1 else n
def slotFewH (ch n : Int) (h : Htlc) : Int:=if (h.Out == ch) = true then (if h.Kept = true then n else n + 1) else n
def standB (score : Int) (yes : Bool) : Bool:=inB score (-100) 100 && decide (20 ≤ score) && yes
def allowF (size few all sf s amt : Int) (good : Bool) : Int :=
 if (amtB size && amtB few && amtB all && amtB amt && decide (0 ≤ sf) && decide (0 ≤ s) && decide (few ≤ all) && decide (sf ≤ s)) = false then 0
 else if 10 ≤ s ∨ size < all + amt then 0
 else if sf < 5∧few + amt ≤ size / 2 then 1
 else if good = true then 2 else 0
def roomF (hs : List Htlc) (tq : Chan) (ch amt score : Int) (yes : Bool) : Int :=
 allowF tq.Size (hs.foldl (fewH ch) 0) (hs.foldl (outH ch) 0) (hs.foldl (slotFewH ch) 0) (hs.foldl (slotH ch) 0) amt (standB score yes)
def feeQ (ppm n : Int) : Int:=n * ppm / 1000000 + (if 0 < n * ppm % 1000000 then 1 else 0)
def feeOk (base ppm n : Int) : Bool:=amtB base && amtB n && inB ppm 0 1000000 && amtB (feeQ ppm n) && amtB (base + feeQ ppm n)
def feeV (base ppm n : Int) : Int:=if feeOk base ppm n = true then base + feeQ ppm n else 0
def upF (n : Int) : Int:=if inB n (-100) 100 = true then min (n + 10) 100 else 0
def downF (n : Int) : Int:=if inB n (-100) 100 = true then max (n - 15) (-100) else 0
def fadeF (n : Int) : Int:=if inB n (-100) 100 = true then (if 0 < n then n - 1 else if n < 0 then n + 1 else 0) else 0
def scoreUp (c : Chan) : Chan:={ c with Score:=upF c.Score }
def scoreDown (c : Chan) : Chan:={ c with Score:=downF c.Score }
def fadeC (c : Chan) : Chan:={ c with Score:=fadeF c.Score }
def olderH (h : Htlc) : Htlc:={ h with Age:=if h.Age < 1125899906842624 then h.Age + 1 else h.Age }
/-! ### what an event does: the code, the book, the lines -/
structure Out where
 code : Int
 b : Bk
 l : List Line
def bad (c : Int) : Out:=⟨c,bk0,[]⟩
def done (b : Bk) (l : List Line) : Out:=⟨0,{ b with n:=if l = [] then b.n else b.n + 1 },l⟩
def depB (b : Bk) (e : Event) : Out :=
 if 1125899906842624 < b.w + e.Amt then bad 2 else done { b with w:=b.w + e.Amt } (nz [⟨1,0,e.Amt⟩,⟨2,0,-e.Amt⟩])
def openB (b : Bk) (e : Event) : Out :=
 if 1125899906842624 < e.Amt + e.Fee then bad 2
 else if 0 ≤ chanIx b.cs e.Ch ∨ 20 ≤ b.cs.length then bad 3
 else if b.w < e.Amt then bad 4
 else done { b with cs:=insC ⟨e.Ch,e.Amt + e.Fee,e.Amt,e.Fee,0,0,0⟩ b.cs,w:=b.w - e.Amt } (nz [⟨1,0,-e.Amt⟩,⟨6,e.Ch,e.Amt⟩])
def priceB (b : Bk) (e : Event) : Out :=
 if chanIx b.cs e.Ch < 0 then bad 6 else done { b with cs:=setCh b.cs e.Ch fun c => { c with Base:=e.Amt,Ppm:=e.Fee } } []
def tickB (b : Bk) : Out :=
 if b.t = 1125899906842624 then bad 2
 else done { b with t:=b.t + 1,hs:=b.hs.map olderH,cs:=if (b.t + 1) % 5 = 0 then b.cs.map fadeC else b.cs } []
end Go.Proofs.YtdbmkfmenfcbiaaGreat
namespace Go.Proofs.YtdbmkfmenfcbiaaGreat
open Go.RowKit
set_option maxRecDepth 100000 in
set_option maxHeartbeats 8000000 in
theorem zhr (bt bn bw : Int) (cs : List Chan) (hs : List Htlc) (os : List Circle) (A1 A2 A3 : Option Addr) (p1 p2 p3 : Nat) (w : World) (hc : cs.length ≤ 20) (h60 : hs.length ≤ 60) (h20 : os.length ≤ 20) (hr : RdBook w w.heap.size A1 cs A2 hs A3 os) :
  Calls Tryz.prog 57 #[.agg #[.int .i64 bt,.int .i64 bn,.int .i64 bw,.slice A1 cs.length p1,.slice A2 hs.length p2,.slice A3 os.length p3]] w fun e w' => e = .returned (.bool (partsB cs hs os))∧Below w.heap.size w w':=by
 have HR:=hd_ hr
 have HH:=hd_ hr.h
 have HO:=hd_ hr.o
 clear hr
 go_enter Tryz.func57,Tryz.ntmps57
 go_wp2_with fail
 go_loopw [13] (fun i wr => ∃ k : Nat,k ≤ hs.length∧i = .int .i64 k∧Hid ((hs.take k).all (htlcB cs) = true)∧wr.heap[w.heap.size]? = some (.cells #[.int .i64 bt,.int .i64 bn,.int .i64 bw,.slice A1 cs.length p1,.slice A2 hs.length p2,.slice A3 os.length p3] 39 (0,0))∧Below w.heap.size w wr) (fun i _ => hs.length - (intOf i).toNat)
 case atStart => exact ⟨0,Nat.zero_le _,rfl,hd_ rfl,zqm rfl,bl_⟩
 case round =>
  obtain ⟨k,hk,rfl,HA,hbox,hbw⟩:=hrel
  have hbz:=hbw.size
  obtain ⟨eh,e0,e1,e2,e3,e4,e5,ef,ezz⟩:=own6 (Below.refl wr.heap.size wr) (gz_ hbox).1 hbox
  have EH:=hd_ eh
  clear eh hbox
  by_cases hlt : k < hs.length
  ·
   obtain ⟨b,off,rfl,hbB,c0,c1,c2,c3,c4,c5,c6⟩:=Htlc.rd (HH.out.below hbw) hlt
   have hat:=htlcB_s cs hs[k]
   cases ht : twoB cs hs[k].In hs[k].Out
   ·
    have HT:=hd_ ht
    clear ht
    have HBAD:=hd_ (show htlcB cs hs[k] = false by rw [hat];simp [HT.out])
    clear hat
    go_wp2_with fail
    refine (zxw bt bn bw cs hs os _ _ _ _ _ _ hs[k].In hs[k].Out _ (by omega) ((HR.out.below (bl_)).more (by first | omega | (simp;omega) | (simp;done)))).mono ?_
    rintro e w5 ⟨rfl,hb5⟩
    have z5:=hb5.size
    try simp at z5
    rw [HT.out]
    obtain ⟨lh,l0,l1,l2,l3,l4,l5,l6,lf,lz⟩:=own7 (g:=wr.heap.size) hb5 (by first | omega | (simp;omega) | (simp;done)) (hp_)
    obtain ⟨rh,r0,r1,r2,r3,r4,r5,rf,rz⟩:=own6 hb5 (by first | omega | (simp;omega) | (simp;done)) (zqg ezz EH.out)
    have RH:=hd_ rh
    have hbw5 : Below w.heap.size w w5:=bl_
    clear rh lh hb5
    go_wp2_with (go_at_call 56;refine (zqu _ _).mono ?_;rintro e w' ⟨rfl,rfl⟩)
    go_ret
    exact ⟨zqj (zjl hlt HBAD.out).symm,bl_⟩
   ·
    have HT:=hd_ ht
    clear ht
    cases ha : amtB hs[k].AmtIn
    ·
     skip
     have HBAD:=hd_ (show htlcB cs hs[k] = false by rw [hat];simp [HT.out,ha])
     clear hat
     go_wp2_with fail
     refine (zxw bt bn bw cs hs os _ _ _ _ _ _ hs[k].In hs[k].Out _ (by omega) ((HR.out.below (bl_)).more (by first | omega | (simp;omega) | (simp;done)))).mono ?_
     rintro e w5 ⟨rfl,hb5⟩
     have z5:=hb5.size
     try simp at z5
     rw [HT.out]
     obtain ⟨lh,l0,l1,l2,l3,l4,l5,l6,lf,lz⟩:=own7 (g:=wr.heap.size) hb5 (by first | omega | (simp;omega) | (simp;done)) (hp_)
     obtain ⟨rh,r0,r1,r2,r3,r4,r5,rf,rz⟩:=own6 hb5 (by first | omega | (simp;omega) | (simp;done)) (zqg ezz EH.out)
     have RH:=hd_ rh
     have hbw5 : Below w.heap.size w w5:=bl_
     clear rh lh hb5
     go_wp2_with (go_at_call 56;refine (zqu _ _).mono ?_;rintro e w' ⟨rfl,rfl⟩)
     go_ret
     exact ⟨zqj (zjl hlt HBAD.out).symm,bl_⟩
    ·
     skip
     cases hc2 : amtB hs[k].AmtOut
     ·
      skip
      have HBAD:=hd_ (show htlcB cs hs[k] = false by rw [hat];simp [HT.out,ha,hc2])
      clear hat
      go_wp2_with fail
      refine (zxw bt bn bw cs hs os _ _ _ _ _ _ hs[k].In hs[k].Out _ (by omega) ((HR.out.below (bl_)).more (by first | omega | (simp;omega) | (simp;done)))).mono ?_
      rintro e w5 ⟨rfl,hb5⟩
      have z5:=hb5.size
      try simp at z5
      rw [HT.out]
      obtain ⟨lh,l0,l1,l2,l3,l4,l5,l6,lf,lz⟩:=own7 (g:=wr.heap.size) hb5 (by first | omega | (simp;omega) | (simp;done)) (hp_)
      obtain ⟨rh,r0,r1,r2,r3,r4,r5,rf,rz⟩:=own6 hb5 (by first | omega | (simp;omega) | (simp;done)) (zqg ezz EH.out)
      have RH:=hd_ rh
      have hbw5 : Below w.heap.size w w5:=bl_
      clear rh lh hb5
      go_wp2_with (go_at_call 56;refine (zqu _ _).mono ?_;rintro e w' ⟨rfl,rfl⟩)
      go_ret
      exact ⟨zqj (zjl hlt HBAD.out).symm,bl_⟩
     ·
      skip
      cases hb : decide (hs[k].AmtOut < 1)
      ·
       skip
       cases hd : decide (hs[k].AmtIn < hs[k].AmtOut)
       ·
        skip
        cases he : amtB hs[k].Age
        ·
         skip
         have HBAD:=hd_ (show htlcB cs hs[k] = false by rw [hat];simp [HT.out,ha,hc2,hb,hd,he])
         clear hat
         go_wp2_with fail
         refine (zxw bt bn bw cs hs os _ _ _ _ _ _ hs[k].In hs[k].Out _ (by omega) ((HR.out.below (bl_)).more (by first | omega | (simp;omega) | (simp;done)))).mono ?_
         rintro e w5 ⟨rfl,hb5⟩
         have z5:=hb5.size
         try simp at z5
         rw [HT.out]
         obtain ⟨lh,l0,l1,l2,l3,l4,l5,l6,lf,lz⟩:=own7 (g:=wr.heap.size) hb5 (by first | omega | (simp;omega) | (simp;done)) (hp_)
         obtain ⟨rh,r0,r1,r2,r3,r4,r5,rf,rz⟩:=own6 hb5 (by first | omega | (simp;omega) | (simp;done)) (zqg ezz EH.out)
         have RH:=hd_ rh
         have hbw5 : Below w.heap.size w w5:=bl_
         clear rh lh hb5
         go_wp2_with (go_at_call 56;refine (zqu _ _).mono ?_;rintro e w' ⟨rfl,rfl⟩)
         go_ret
         exact ⟨zqj (zjl hlt HBAD.out).symm,bl_⟩
        ·
         skip
         have HGOOD:=hd_ (show htlcB cs hs[k] = true by rw [hat];simp [HT.out,ha,hc2,hb,hd,he])
         clear hat
         go_wp2_with fail
         refine (zxw bt bn bw cs hs os _ _ _ _ _ _ hs[k].In hs[k].Out _ (by omega) ((HR.out.below (bl_)).more (by first | omega | (simp;omega) | (simp;done)))).mono ?_
         rintro e w5 ⟨rfl,hb5⟩
         have z5:=hb5.size
         try simp at z5
         rw [HT.out]
         obtain ⟨lh,l0,l1,l2,l3,l4,l5,l6,lf,lz⟩:=own7 (g:=wr.heap.size) hb5 (by first | omega | (simp;omega) | (simp;done)) (hp_)
         obtain ⟨rh,r0,r1,r2,r3,r4,r5,rf,rz⟩:=own6 hb5 (by first | omega | (simp;omega) | (simp;done)) (zqg ezz EH.out)
         have RH:=hd_ rh
         have hbw5 : Below w.heap.size w w5:=bl_
         clear rh lh hb5
         go_wp2_with (go_at_call 56;refine (zqu _ _).mono ?_;rintro e w' ⟨rfl,rfl⟩)
         go_roundw
         case rel => exact ⟨k + 1,by omega,by go_num,hd_ (by rw [zjb hs _ hlt,HA.out,HGOOD.out];rfl),RH.out,bl_⟩
         case measure => simp [intOf];omega
       ·
        skip
        have HBAD:=hd_ (show htlcB cs hs[k] = false by rw [hat];simp [HT.out,ha,hc2,hb,hd])
        clear hat
        go_wp2_with fail
        refine (zxw bt bn bw cs hs os _ _ _ _ _ _ hs[k].In hs[k].Out _ (by omega) ((HR.out.below (bl_)).more (by first | omega | (simp;omega) | (simp;done)))).mono ?_
        rintro e w5 ⟨rfl,hb5⟩
        have z5:=hb5.size
        try simp at z5
        rw [HT.out]
        obtain ⟨lh,l0,l1,l2,l3,l4,l5,l6,lf,lz⟩:=own7 (g:=wr.heap.size) hb5 (by first | omega | (simp;omega) | (simp;done)) (hp_)
        obtain ⟨rh,r0,r1,r2,r3,r4,r5,rf,rz⟩:=own6 hb5 (by first | omega | (simp;omega) | (simp;done)) (zqg ezz EH.out)
        have RH:=hd_ rh
        have hbw5 : Below w.heap.size w w5:=bl_
        clear rh lh hb5
        go_wp2_with (go_at_call 56;refine (zqu _ _).mono ?_;rintro e w' ⟨rfl,rfl⟩)
        go_ret
        exact ⟨zqj (zjl hlt HBAD.out).symm,bl_⟩
      ·
       skip
       have HBAD:=hd_ (show htlcB cs hs[k] = false by rw [hat];simp [HT.out,ha,hc2,hb])
       clear hat
       go_wp2_with fail
       refine (zxw bt bn bw cs hs os _ _ _ _ _ _ hs[k].In hs[k].Out _ (by omega) ((HR.out.below (bl_)).more (by first | omega | (simp;omega) | (simp;done)))).mono ?_
       rintro e w5 ⟨rfl,hb5⟩
       have z5:=hb5.size
       try simp at z5
       rw [HT.out]
       obtain ⟨lh,l0,l1,l2,l3,l4,l5,l6,lf,lz⟩:=own7 (g:=wr.heap.size) hb5 (by first | omega | (simp;omega) | (simp;done)) (hp_)
       obtain ⟨rh,r0,r1,r2,r3,r4,r5,rf,rz⟩:=own6 hb5 (by first | omega | (simp;omega) | (simp;done)) (zqg ezz EH.out)
       have RH:=hd_ rh
       have hbw5 : Below w.heap.size w w5:=bl_
       clear rh lh hb5
       go_wp2_with (go_at_call 56;refine (zqu _ _).mono ?_;rintro e w' ⟨rfl,rfl⟩)
       go_ret
       exact ⟨zqj (zjl hlt HBAD.out).symm,bl_⟩
  ·
   obtain rfl : k = hs.length:=by omega
   have ha:=HA.out
   rw [List.take_length] at ha
   have HALL1:=hd_ ha
   clear ha HA
   go_wp2_with fail
   obtain ⟨wo,rfl⟩ : ∃ wo : World,wo = wr:=⟨_,rfl⟩
   go_loopw [58] (fun i wr => ∃ k : Nat,k ≤ os.length∧i = .int .i64 k∧Hid ((os.take k).all (circB cs) = true)∧wr.heap[w.heap.size]? = some (.cells #[.int .i64 bt,.int .i64 bn,.int .i64 bw,.slice A1 cs.length p1,.slice A2 hs.length p2,.slice A3 os.length p3] 39 (0,0))∧Below w.heap.size w wr) (fun i _ => os.length - (intOf i).toNat)
   case atStart => exact ⟨0,Nat.zero_le _,rfl,hd_ rfl,EH.out,bl_⟩
   case round =>
    obtain ⟨k,hk,rfl,HA,hbox,hbw⟩:=hrel
    have hbz:=hbw.size
    obtain ⟨eh,e0,e1,e2,e3,e4,e5,ef,ezz⟩:=own6 (Below.refl wr.heap.size wr) (gz_ hbox).1 hbox
    have EH:=hd_ eh
    clear eh hbox
    by_cases hlt : k < os.length
    ·
     obtain ⟨b,off,rfl,hbB,c0,c1,c2,c3,c4⟩:=Circle.rd (HO.out.below hbw) hlt
     have hat:=circB_s cs os[k]
     cases ht : twoB cs os[k].From os[k].To
     ·
      have HT:=hd_ ht
      clear ht
      have HBAD:=hd_ (show circB cs os[k] = false by rw [hat];simp [HT.out])
      clear hat
      go_wp2_with fail
      refine (zxw bt bn bw cs hs os _ _ _ _ _ _ os[k].From os[k].To _ (by omega) ((HR.out.below (bl_)).more (by first | omega | (simp;omega) | (simp;done)))).mono ?_
      rintro e w5 ⟨rfl,hb5⟩
      have z5:=hb5.size
      try simp at z5
      rw [HT.out]
      obtain ⟨lh,l0,l1,l2,l3,l4,lf,lz⟩:=own5 (g:=wr.heap.size) hb5 (by first | omega | (simp;omega) | (simp;done)) (hp_)
      obtain ⟨rh,r0,r1,r2,r3,r4,r5,rf,rz⟩:=own6 hb5 (by first | omega | (simp;omega) | (simp;done)) (zqg ezz EH.out)
      have RH:=hd_ rh
      have hbw5 : Below w.heap.size w w5:=bl_
      clear rh lh hb5
      go_wp2_with (go_at_call 56;refine (zqu _ _).mono ?_;rintro e w' ⟨rfl,rfl⟩)
      go_ret
      exact ⟨zqj (zkg hlt HBAD.out).symm,bl_⟩
     ·
      have HT:=hd_ ht
      clear ht
      cases ha : amtB os[k].Amt
      ·
       skip
       have HBAD:=hd_ (show circB cs os[k] = false by rw [hat];simp [HT.out,ha])
       clear hat
       go_wp2_with fail
       refine (zxw bt bn bw cs hs os _ _ _ _ _ _ os[k].From os[k].To _ (by omega) ((HR.out.below (bl_)).more (by first | omega | (simp;omega) | (simp;done)))).mono ?_
       rintro e w5 ⟨rfl,hb5⟩
       have z5:=hb5.size
       try simp at z5
       rw [HT.out]
       obtain ⟨lh,l0,l1,l2,l3,l4,lf,lz⟩:=own5 (g:=wr.heap.size) hb5 (by first | omega | (simp;omega) | (simp;done)) (hp_)
       obtain ⟨rh,r0,r1,r2,r3,r4,r5,rf,rz⟩:=own6 hb5 (by first | omega | (simp;omega) | (simp;done)) (zqg ezz EH.out)
       have RH:=hd_ rh
       have hbw5 : Below w.heap.size w w5:=bl_
       clear rh lh hb5
       go_wp2_with (go_at_call 56;refine (zqu _ _).mono ?_;rintro e w' ⟨rfl,rfl⟩)
       go_ret
       exact ⟨zqj (zkg hlt HBAD.out).symm,bl_⟩
      ·
       skip
       cases hb : decide (os[k].Amt < 1)
       ·
        skip
        cases he : amtB os[k].Fee
        ·
         skip
         have HBAD:=hd_ (show circB cs os[k] = false by rw [hat];simp [HT.out,ha,hb,he])
         clear hat
         go_wp2_with fail
         refine (zxw bt bn bw cs hs os _ _ _ _ _ _ os[k].From os[k].To _ (by omega) ((HR.out.below (bl_)).more (by first | omega | (simp;omega) | (simp;done)))).mono ?_
         rintro e w5 ⟨rfl,hb5⟩
         have z5:=hb5.size
         try simp at z5
         rw [HT.out]
         obtain ⟨lh,l0,l1,l2,l3,l4,lf,lz⟩:=own5 (g:=wr.heap.size) hb5 (by first | omega | (simp;omega) | (simp;done)) (hp_)
         obtain ⟨rh,r0,r1,r2,r3,r4,r5,rf,rz⟩:=own6 hb5 (by first | omega | (simp;omega) | (simp;done)) (zqg ezz EH.out)
         have RH:=hd_ rh
         have hbw5 : Below w.heap.size w w5:=bl_
         clear rh lh hb5
         go_wp2_with (go_at_call 56;refine (zqu _ _).mono ?_;rintro e w' ⟨rfl,rfl⟩)
         go_ret
         exact ⟨zqj (zkg hlt HBAD.out).symm,bl_⟩
        ·
         skip
         have HGOOD:=hd_ (show circB cs os[k] = true by rw [hat];simp [HT.out,ha,hb,he])
         clear hat
         go_wp2_with fail
         refine (zxw bt bn bw cs hs os _ _ _ _ _ _ os[k].From os[k].To _ (by omega) ((HR.out.below (bl_)).more (by first | omega | (simp;omega) | (simp;done)))).mono ?_
         rintro e w5 ⟨rfl,hb5⟩
         have z5:=hb5.size
         try simp at z5
         rw [HT.out]
         obtain ⟨lh,l0,l1,l2,l3,l4,lf,lz⟩:=own5 (g:=wr.heap.size) hb5 (by first | omega | (simp;omega) | (simp;done)) (hp_)
         obtain ⟨rh,r0,r1,r2,r3,r4,r5,rf,rz⟩:=own6 hb5 (by first | omega | (simp;omega) | (simp;done)) (zqg ezz EH.out)
         have RH:=hd_ rh
         have hbw5 : Below w.heap.size w w5:=bl_
         clear rh lh hb5
         go_wp2_with (go_at_call 56;refine (zqu _ _).mono ?_;rintro e w' ⟨rfl,rfl⟩)
         go_roundw
         case rel => exact ⟨k + 1,by omega,by go_num,hd_ (by rw [zjb os _ hlt,HA.out,HGOOD.out];rfl),RH.out,bl_⟩
         case measure => simp [intOf];omega
       ·
        skip
        have HBAD:=hd_ (show circB cs os[k] = false by rw [hat];simp [HT.out,ha,hb])
        clear hat
        go_wp2_with fail
        refine (zxw bt bn bw cs hs os _ _ _ _ _ _ os[k].From os[k].To _ (by omega) ((HR.out.below (bl_)).more (by first | omega | (simp;omega) | (simp;done)))).mono ?_
        rintro e w5 ⟨rfl,hb5⟩
        have z5:=hb5.size
        try simp at z5
        rw [HT.out]
        obtain ⟨lh,l0,l1,l2,l3,l4,lf,lz⟩:=own5 (g:=wr.heap.size) hb5 (by first | omega | (simp;omega) | (simp;done)) (hp_)
        obtain ⟨rh,r0,r1,r2,r3,r4,r5,rf,rz⟩:=own6 hb5 (by first | omega | (simp;omega) | (simp;done)) (zqg ezz EH.out)
        have RH:=hd_ rh
        have hbw5 : Below w.heap.size w w5:=bl_
        clear rh lh hb5
        go_wp2_with (go_at_call 56;refine (zqu _ _).mono ?_;rintro e w' ⟨rfl,rfl⟩)
        go_ret
        exact ⟨zqj (zkg hlt HBAD.out).symm,bl_⟩
    ·
     obtain rfl : k = os.length:=by omega
     have ha:=HA.out
     rw [List.take_length] at ha
     have HALL2:=hd_ ha
     clear ha HA
     go_wp2_with fail
     refine (zwx bt bn bw cs hs os _ _ _ _ _ _ _ h60 h20 ((HR.out.below (bl_)).more (by first | omega | (simp;omega) | (simp;done)))).mono ?_
     rintro e w8 ⟨B,cp,rfl,how8,hb8⟩
     have HW:=hd_ how8
     have hbw8 : Below w.heap.size w w8:=bl_
     clear how8
     go_wp2_with fail
     obtain ⟨wo,rfl⟩ : ∃ wo : World,wo = w8:=⟨_,rfl⟩
     obtain ⟨KS,hKS⟩ : ∃ KS,keysOf hs os = KS:=⟨_,rfl⟩
     rw [hKS] at HW ⊢
     have hkl : KS.length ≤ 80:=by rw [← hKS];unfold keysOf;simp;omega
     have HKS:=hd_ hKS
     clear hKS
     have hcp : KS.length ≤ cp:=by
      obtain ⟨_,cp2,hv2,_,hc2,_⟩:=HW.out.form
      injection hv2 with _ _ hcc
      rw [hcc]
      rwa [List.length_map] at hc2
     have hcm : cp ≤ maxLen:=by
      obtain ⟨_,cp2,hv2,_,_,hm2⟩:=HW.out.form
      injection hv2 with _ _ hcc
      rwa [hcc]
     unfold maxLen at hcm
     have HRK:=hd_ HW.out.rd
     go_loopw [91] (fun i wr' => ∃ k : Nat,k ≤ KS.length∧i = .int .i64 k∧Hid (everyTo k (keyAt KS) = true)∧wr' = wo) (fun i _ => KS.length - (intOf i).toNat)
     case atStart => exact ⟨0,Nat.zero_le _,rfl,hd_ rfl,rfl⟩
     case round =>
      obtain ⟨k,hk,rfl,HEV,rfl⟩:=hrel
      by_cases hlt : k < KS.length
      ·
       obtain ⟨b,off,rfl,hbB,c0⟩:=zvu HRK.out hlt
       have i1 : (0 : Int) ≤ (k : Int):=by omega
       have i2 : (k : Int) < (KS.length : Int):=by omega
       have i3 : (k : Int) ≤ (cp : Int):=by omega
       have HAS:=fun W => zkc (KS.take k) KS[k] (some ⟨b,off,none⟩) cp W (by rw [List.length_take];omega)
       simp only [List.length_take,Nat.min_eq_left (Nat.le_of_lt hlt),List.map_take] at HAS
       have HHAS:=hd_ HAS
       clear HAS
       have hat:=keyAt_s hlt
       cases hq : decide (KS[k] < 1)
       ·
        skip
        cases hq2 : decide (1000000 < KS[k])
        ·
         skip
         cases hh : hasB (KS.take k) KS[k]
         ·
          have HH2:=hd_ hh
          clear hh
          have HGOOD:=hd_ (show keyAt KS k = true by rw [hat];simp [hq,hq2,HH2.out])
          clear hat
          go_wp2_with fail
          refine (HHAS.out _ (HRK.out.take k)).mono ?_
          rintro e w7 ⟨rfl,rfl⟩
          rw [HH2.out]
          go_wp2_with fail
          go_roundw
          case rel => exact ⟨k + 1,by omega,by go_num,hd_ (by rw [zjh,HEV.out,HGOOD.out];rfl),trivial⟩
          case measure => simp [intOf];omega
         ·
          have HH2:=hd_ hh
          clear hh
          have HBAD:=hd_ (show keyAt KS k = false by rw [hat];simp [hq,hq2,HH2.out])
          clear hat
          go_wp2_with fail
          refine (HHAS.out _ (HRK.out.take k)).mono ?_
          rintro e w7 ⟨rfl,rfl⟩
          rw [HH2.out]
          go_wp2_with fail
          go_ret
          exact ⟨zqj (by exact (zvo (by rw [HKS.out];exact hlt) (by rw [HKS.out];exact HBAD.out)).symm),bl_⟩
        ·
         skip
         have HBAD:=hd_ (show keyAt KS k = false by rw [hat];simp [hq,hq2])
         clear hat
         go_wp2_with fail
         go_ret
         exact ⟨zqj (by exact (zvo (by rw [HKS.out];exact hlt) (by rw [HKS.out];exact HBAD.out)).symm),bl_⟩
       ·
        skip
        have HBAD:=hd_ (show keyAt KS k = false by rw [hat];simp [hq])
        clear hat
        go_wp2_with fail
        go_ret
        exact ⟨zqj (by exact (zvo (by rw [HKS.out];exact hlt) (by rw [HKS.out];exact HBAD.out)).symm),bl_⟩
      ·
       obtain rfl : k = KS.length:=by omega
       go_wp2_with fail
       go_ret
       exact ⟨zqj (by unfold partsB;rw [HALL1.out,HALL2.out,HKS.out,HEV.out];rfl),bl_⟩
end Go.Proofs.YtdbmkfmenfcbiaaGreat
namespace Go.Proofs.YtdbmkfmenfcbiaaGreat
open Go.RowKit

end Go.Proofs.YtdbmkfmenfcbiaaGreat
namespace Go.Proofs.YtdbmkfmenfcbiaaGreat
open Go.RowKit

theorem bookB_i (bt bn bw : Int) (cs : List Chan) (hs : List Htlc) (os : List Circle) :
    bookB bt bn bw cs hs os = (amtB bt && amtB bw && inB bn 1 1125899906842624 && !decide ((20 : Int) < (cs.length : Int)) && partsOkB cs hs os && everyTo cs.length (chanOk cs hs os)):=by
  rw [Bool.eq_iff_iff]
  simp only [bookB,partsOkB,Bool.and_eq_true,decide_eq_true_eq,Bool.not_eq_true',decide_eq_false_iff_not]
  constructor
  · rintro ⟨⟨⟨⟨⟨⟨⟨h1,h2⟩,h3⟩,h4⟩,h5⟩,h6⟩,h7⟩,h8⟩;exact ⟨⟨⟨⟨⟨h1,h2⟩,h3⟩,by omega⟩,⟨h5,h6⟩,h7⟩,h8⟩
  · rintro ⟨⟨⟨⟨⟨h1,h2⟩,h3⟩,h4⟩,⟨h5,h6⟩,h7⟩,h8⟩;exact ⟨⟨⟨⟨⟨⟨⟨h1,h2⟩,h3⟩,by omega⟩,h5⟩,h6⟩,h7⟩,h8⟩
theorem bookB_s (bt bn bw : Int) (cs : List Chan) (hs : List Htlc) (os : List Circle) :
    bookB bt bn bw cs hs os = (amtB bt && amtB bw && !decide (bn < 1) && !decide (1125899906842624 < bn) && !decide ((20 : Int) < (cs.length : Int)) && !decide ((60 : Int) < (hs.length : Int)) && !decide ((20 : Int) < (os.length : Int)) && partsB cs hs os && everyTo cs.length (chanOk cs hs os)):=by
  rw [Bool.eq_iff_iff]
  simp only [bookB,Bool.and_eq_true,zxx,decide_eq_true_eq,Bool.not_eq_true',decide_eq_false_iff_not]
  constructor
  · rintro ⟨⟨⟨⟨⟨⟨⟨h1,h2⟩,h3⟩,h4⟩,h5⟩,h6⟩,h7⟩,h8⟩;exact ⟨⟨⟨⟨⟨⟨⟨⟨h1,h2⟩,by omega⟩,by omega⟩,by omega⟩,by omega⟩,by omega⟩,h7⟩,h8⟩
  · rintro ⟨⟨⟨⟨⟨⟨⟨⟨h1,h2⟩,h3⟩,h3'⟩,h4⟩,h5⟩,h6⟩,h7⟩,h8⟩;exact ⟨⟨⟨⟨⟨⟨⟨h1,h2⟩,by omega⟩,by omega⟩,by omega⟩,by omega⟩,h7⟩,h8⟩
theorem chB_i (hs : List Htlc) (os : List Circle) (c : Chan) : chB hs os c = (isChanB c.Id && amtB c.Local && amtB c.Remote && amtB c.Base && inB c.Ppm 0 1000000 && inB c.Score (-100) 100 && amtB c.Size && !(c.Size != c.Local + c.Remote + outOf hs os c.Id + inOf hs os c.Id)):=by
  simp [chB,bne]
theorem chB_s (hs : List Htlc) (os : List Circle) (c : Chan) : chB hs os c = (!decide (c.Id < 1) && !decide (99 < c.Id) && amtB c.Local && amtB c.Remote && amtB c.Base && !decide (c.Ppm < 0) && !decide (1000000 < c.Ppm) && inB c.Score (-100) 100 && amtB c.Size && !(c.Local + c.Remote + outOf hs os c.Id + inOf hs os c.Id != c.Size)):=by
  rw [Bool.eq_iff_iff]
  simp only [chB,Bool.and_eq_true,zwr,zxx,Bool.not_eq_true',decide_eq_false_iff_not,beq_iff_eq,bne_eq_false_iff_eq]
  constructor
  · rintro ⟨⟨⟨⟨⟨⟨⟨h1,h2⟩,h3⟩,h4⟩,h5⟩,h6⟩,h7⟩,h8⟩;exact ⟨⟨⟨⟨⟨⟨⟨⟨⟨by omega,by omega⟩,h2⟩,h3⟩,h4⟩,by omega⟩,by omega⟩,h6⟩,h7⟩,h8.symm⟩
  · rintro ⟨⟨⟨⟨⟨⟨⟨⟨⟨h1,h1'⟩,h2⟩,h3⟩,h4⟩,h5⟩,h5'⟩,h6⟩,h7⟩,h8⟩;exact ⟨⟨⟨⟨⟨⟨⟨by omega,h2⟩,h3⟩,h4⟩,by omega⟩,h6⟩,h7⟩,h8.symm⟩
theorem zgx (a b : Int) : decide (a < b) = !decide (b ≤ a):=by
  rw [Bool.eq_iff_iff]
  simp
theorem zxc {bt bn bw : Int} {cs : List Chan} {hs : List Htlc} {os : List Circle} {k : Nat} (hk : k < cs.length) (h : chanOk cs hs os k = false) : bookB bt bn bw cs hs os = false:=by
  unfold bookB
  rw [zvf hk h,Bool.and_false]
end Go.Proofs.YtdbmkfmenfcbiaaGreat
namespace Go.Proofs.YtdbmkfmenfcbiaaGreat
open Go.RowKit

structure Mvd (w w' : World) (s : Nat → Prop) : Prop where
  os : w'.os = w.os
  tape : w'.tape = w.tape
  output : w'.output = w.output
  size : w.heap.size ≤ w'.heap.size
  block : ∀ k,k < w.heap.size → ¬ s k → w'.heap[k]? = w.heap[k]?
section
variable {w w' w'' a : World} {s : Nat → Prop}
theorem Mvd.of_grown {g : Nat} (h : w.grownBy w' (some g)) (hs : s g) : Mvd w w' s:=⟨h.os,h.tape,h.output,h.size,fun k hk hn => h.block k hk (fun e => by injection e with e;subst e;exact hn hs)⟩
theorem Mvd.trans (h : Mvd a w s) (k : Mvd w w' s) : Mvd a w' s :=
  ⟨k.os.trans h.os,k.tape.trans h.tape,k.output.trans h.output,Nat.le_trans h.size k.size,fun i hi hn => (k.block i (Nat.lt_of_lt_of_le hi h.size) hn).trans (h.block i hi hn)⟩
theorem Mvd.set (h : Mvd a w s) {q : Nat} (hq : s q) (i : Nat) (u : Value) : Mvd a (w.setCell ⟨q,i,none⟩ u) s:=h.trans (Mvd.of_grown (zqh (World.grownBy.refl w (some q)) i u) hq)
theorem Mvd.refl (w : World) (s : Nat → Prop) : Mvd w w s:=⟨rfl,rfl,rfl,Nat.le_refl _,fun _ _ _ => rfl⟩
theorem Mvd.alloc (h : Mvd a w s) (o : Obj) : Mvd a (w.alloc o) s:=h.trans ⟨rfl,rfl,rfl,by simp,fun _ hk _ => zqg hk (by rw [Array.getElem?_eq_getElem hk]) |>.trans (by rw [Array.getElem?_eq_getElem hk])⟩
theorem Mvd.heap {n : Nat} {x : Obj} (h : Mvd w w' s) (hn : ¬ s n) (k : w.heap[n]? = some x) : w'.heap[n]? = some x:=(h.block n (gz_ k).1 hn).trans k
theorem Mvd.grown {g : Nat} (h : a.grownBy w (some g)) (k : Mvd w w' s) (hs : ∀ i,s i → i = g ∨ a.heap.size ≤ i) : a.grownBy w' (some g) :=
  ⟨k.os.trans h.os,k.tape.trans h.tape,k.output.trans h.output,Nat.le_trans h.size k.size,fun i hi hne => (k.block i (Nat.lt_of_lt_of_le hi h.size) (fun hc => (hs i hc).elim (fun e => hne (by rw [e])) (fun e => absurd hi (by omega)))).trans (h.block i hi hne)⟩
end
section
variable {w : World} {B q n cp : Nat} {e : TypeId} {L : List Line}
theorem Ow.shorter {A : Option Addr} {size : Nat} {rows : List (List Value)} (h : Ow w B e size (.slice A rows.length cp) rows) {m : Nat} (hm : m ≤ rows.length) : Ow w B e size (.slice A m cp) (rows.take m):=by
  have hlen : (rows.take m).length = m:=by rw [List.length_take];omega
  have hu : ∀ r ∈ rows.take m,r.length = size:=fun r hr => h.1 r (List.mem_of_mem_take hr)
  refine ⟨hu,by rw [hlen];rw [zxu _ size hu,hlen],?_⟩
  rcases h.2.2 with ⟨hv,h0⟩ | ⟨g,cap,cur,hv,hg,hh,hn,hmx,hs,ht⟩
  · left
    injection hv with h1 _ h3
    subst h1 h3
    have : m = 0:=by omega
    subst this
    exact ⟨rfl,by simp⟩
  · right
    injection hv with h1 _ h3
    subst h1 h3
    refine ⟨g,cp,cur,by rw [hlen],hg,hh,by rw [hlen];omega,hmx,hs,?_⟩
    rw [hlen]
    have : rows.flatten.take (m * size) = (rows.take m).flatten:=by
      conv => lhs;rw [← List.take_append_drop m rows,List.flatten_append]
      rw [List.take_append_of_le_length (by rw [zxu _ size hu,hlen];exact Nat.le_refl _),List.take_of_length_le (by rw [zxu _ size hu,hlen];exact Nat.le_refl _)]
    rw [← this,← ht,List.take_take,Nat.min_eq_left (Nat.mul_le_mul_right _ hm)]
end
end Go.Proofs.YtdbmkfmenfcbiaaGreat
namespace Go.Proofs.YtdbmkfmenfcbiaaGreat
open Go.RowKit Go.Deep

def hasR (k : Int) : List Bool :=
  if k = 1 then [false,false,false,true,false,false]
  else if k = 2 ∨ k = 4 then [false,true,false,true,true,false]
  else if k = 3 then [false,true,false,false,true,false]
  else if k = 5 then [true,true,true,true,false,true]
  else if k = 9 then [true,true,true,true,true,false]
  else if k = 8 then [false,false,false,false,false,false]
  else [true,false,false,false,false,false]
def fldB (has : Bool) (n lo hi : Int) : Bool:=if has = true then inB n lo hi else n == 0
def evS (h0 h1 h2 h3 h4 h5 : Bool) (least most : Int) (e : Event) : Bool :=
  fldB h0 e.Key 1 1000000 && fldB h1 e.Ch 1 99 && fldB h2 e.To 1 99 && !(h2 && e.Ch == e.To) && fldB h3 e.Amt least 1125899906842624 && fldB h4 e.Fee 0 most && (h5 || !e.Yes)
theorem zga {e : Event} (h : e.Kind < 1 ∨ 11 < e.Kind) : evB e = false:=by
  unfold evB
  rw [if_neg (by omega),if_neg (by omega),if_neg (by omega),if_neg (by omega),if_neg (by omega),if_neg (by omega),if_neg (by omega),if_neg (by omega)]
theorem zpz {e : Event} (h1 : 1 ≤ e.Kind) (h2 : e.Kind ≤ 11) : ∃ h0 h1' h2' h3 h4 h5,hasR e.Kind = [h0,h1',h2',h3,h4,h5]∧evB e = evS h0 h1' h2' h3 h4 h5 (if e.Kind = 4 then 0 else 1) (if e.Kind = 4 then 1000000 else 1125899906842624) e:=by
  obtain ⟨k,key,ch,tq,amt,fee,yes⟩:=e
  simp only at h1 h2
  have hk : k = 1 ∨ k = 2 ∨ k = 3 ∨ k = 4 ∨ k = 5 ∨ k = 6 ∨ k = 7 ∨ k = 8 ∨ k = 9 ∨ k = 10 ∨ k = 11:=by omega
  rcases hk with rfl | rfl | rfl | rfl | rfl | rfl | rfl | rfl | rfl | rfl | rfl <;>
    exact ⟨_,_,_,_,_,_,rfl,by cases yes <;> simp [evB,evS,fldB,isChanB,amtB,Bool.and_assoc,bne]⟩
theorem zka {P : Program} {c : Go.Code} {Q : Exit → Act → World → Prop} {a : Act} {w : World} (h : ∀ wq,wq = w → Go.Code.wp P c Q a wq) : Go.Code.wp P c Q a w:=h w rfl
theorem zxr (has : Bool) (n lo hi : Int) (w : World) : Calls Tryz.prog 108 #[.bool has,.int .i64 n,.int .i64 lo,.int .i64 hi] w fun e w' => e = .returned (.bool (fldB has n lo hi))∧w = w':=by
  cases has
  · go_enter Tryz.func108,Tryz.ntmps108
    go_wp2
    go_ret
    exact ⟨rfl,rfl⟩
  · by_cases h1 : lo ≤ n <;> by_cases h2 : n ≤ hi
    all_goals
      go_enter Tryz.func108,Tryz.ntmps108
      go_wp2
      all_goals go_ret
      all_goals exact ⟨by simp [fldB,inB,h1,h2] <;> omega,rfl⟩
def HasP (k : Int) (w : World) (e : Ending) (w' : World) : Prop:=e = .returned (.slice (some ⟨w.heap.size,0,none⟩) 6 6)∧w' = w.alloc (.cells ((hasR k).map Value.bool).toArray 4)
theorem zyc (k : Int) (w : World) (h1 : 1 ≤ k) (h2 : k ≤ 11) : Calls Tryz.prog 107 #[.int .i64 k] w (HasP k w):=by
  have hk : k = 1 ∨ k = 2 ∨ k = 3 ∨ k = 4 ∨ k = 5 ∨ k = 6 ∨ k = 7 ∨ k = 8 ∨ k = 9 ∨ k = 10 ∨ k = 11:=by omega
  clear h1 h2
  rcases hk with rfl | rfl | rfl | rfl | rfl | rfl | rfl | rfl | rfl | rfl | rfl
  all_goals
    go_enter Tryz.func107,Tryz.ntmps107
    go_wp2
    go_ret
    exact ⟨rfl,rfl⟩
end Go.Proofs.YtdbmkfmenfcbiaaGreat
namespace Go.Proofs.YtdbmkfmenfcbiaaGreat
open Go.RowKit Go.Deep
theorem zsa (n lo hi : Int) (w : World) (h : lo ≤ hi) : Calls Tryz.prog 158 #[.int .i64 n,.int .i64 lo,.int .i64 hi] w fun e w' => e = .returned (.int .i64 (max lo (min n hi)))∧w = w':=by
 by_cases h1 : n < lo
 ·
  go_enter Tryz.func158,Tryz.ntmps158
  go_wp2
  go_ret
  exact ⟨zxk (by omega),rfl⟩
 ·
  by_cases h2 : hi < n
  all_goals
   go_enter Tryz.func158,Tryz.ntmps158
   go_wp2
   go_ret
   exact ⟨zxk (by omega),rfl⟩
theorem zsb (n : Int) (w : World) : Calls Tryz.prog 114 #[.int .i64 n] w fun e w' => e = .returned (.int .i64 (upF n))∧w = w':=by
 cases h : inB n (-100) 100
 ·
  have HE:=hd_ (show upF n = 0 by unfold upF;rw [h];rfl)
  go_enter Tryz.func114,Tryz.ntmps114
  go_wp2_with (go_at_call 58;refine (zxd _ _).mono ?_;rintro e w' ⟨rfl,rfl⟩)
  go_ret
  exact ⟨zxk HE.out.symm,rfl⟩
 ·
  have HE:=hd_ (show upF n = min (n + 10) 100 by unfold upF;rw [h];rfl)
  obtain ⟨h1,h2⟩:=zxx.1 h
  go_enter Tryz.func114,Tryz.ntmps114
  go_wp2_with (first | (go_at_call 58;refine (zxd _ _).mono ?_;rintro e w' ⟨rfl,rfl⟩) | (go_at_call 158;refine (zsa _ _ _ _ (by decide)).mono ?_;rintro e w' ⟨rfl,rfl⟩))
  go_ret
  exact ⟨zxk (by rw [HE.out];omega),rfl⟩
theorem ztz (n : Int) (w : World) : Calls Tryz.prog 115 #[.int .i64 n] w fun e w' => e = .returned (.int .i64 (downF n))∧w = w':=by
 cases h : inB n (-100) 100
 ·
  have HE:=hd_ (show downF n = 0 by unfold downF;rw [h];rfl)
  go_enter Tryz.func115,Tryz.ntmps115
  go_wp2_with (go_at_call 58;refine (zxd _ _).mono ?_;rintro e w' ⟨rfl,rfl⟩)
  go_ret
  exact ⟨zxk HE.out.symm,rfl⟩
 ·
  have HE:=hd_ (show downF n = max (n - 15) (-100) by unfold downF;rw [h];rfl)
  obtain ⟨h1,h2⟩:=zxx.1 h
  go_enter Tryz.func115,Tryz.ntmps115
  go_wp2_with (first | (go_at_call 58;refine (zxd _ _).mono ?_;rintro e w' ⟨rfl,rfl⟩) | (go_at_call 158;refine (zsa _ _ _ _ (by decide)).mono ?_;rintro e w' ⟨rfl,rfl⟩))
  go_ret
  exact ⟨zxk (by rw [HE.out];omega),rfl⟩
theorem zma (n : Int) (w : World) : Calls Tryz.prog 116 #[.int .i64 n] w fun e w' => e = .returned (.int .i64 (fadeF n))∧w = w':=by
 cases h : inB n (-100) 100
 ·
  have HE:=hd_ (show fadeF n = 0 by unfold fadeF;rw [h];rfl)
  go_enter Tryz.func116,Tryz.ntmps116
  go_wp2_with (go_at_call 58;refine (zxd _ _).mono ?_;rintro e w' ⟨rfl,rfl⟩)
  go_ret
  exact ⟨zxk HE.out.symm,rfl⟩
 ·
  have HE:=hd_ (show fadeF n = if 0 < n then n - 1 else if n < 0 then n + 1 else 0 by unfold fadeF;rw [h];rfl)
  obtain ⟨h1,h2⟩:=zxx.1 h
  by_cases h0 : n = 0
  ·
   subst h0
   go_enter Tryz.func116,Tryz.ntmps116
   go_wp2_with (go_at_call 58;refine (zxd _ _).mono ?_;rintro e w' ⟨rfl,rfl⟩)
   go_ret
   exact ⟨zxk HE.out.symm,rfl⟩
  ·
   have t0 : (n == 0) = false:=by simpa using h0
   by_cases hp : 0 < n
   ·
    have HF:=hd_ (show fadeF n = n - 1 by rw [HE.out,if_pos hp])
    clear h0
    go_enter Tryz.func116,Tryz.ntmps116
    go_wp2_with (go_at_call 58;refine (zxd _ _).mono ?_;rintro e w' ⟨rfl,rfl⟩)
    go_ret
    exact ⟨zxk HF.out.symm,rfl⟩
   ·
    have HF:=hd_ (show fadeF n = n + 1 by rw [HE.out,if_neg hp,if_pos (by omega)])
    clear h0
    go_enter Tryz.func116,Tryz.ntmps116
    go_wp2_with (go_at_call 58;refine (zxd _ _).mono ?_;rintro e w' ⟨rfl,rfl⟩)
    go_ret
    exact ⟨zxk HF.out.symm,rfl⟩
theorem zph (n : Int) (y : Bool) (w : World) : Calls Tryz.prog 157 #[.int .i64 n,.bool y] w fun e w' => e = .returned (.bool (standB n y))∧w = w':=by
 cases h : inB n (-100) 100
 ·
  have HE:=hd_ (show standB n y = false by unfold standB;rw [h];rfl)
  go_enter Tryz.func157,Tryz.ntmps157
  go_wp2_with (go_at_call 58;refine (zxd _ _).mono ?_;rintro e w' ⟨rfl,rfl⟩)
  go_ret
  exact ⟨zqj HE.out.symm,rfl⟩
 ·
  by_cases h2 : 20 ≤ n
  ·
   have HE:=hd_ (show standB n y = y by unfold standB;rw [h,decide_eq_true h2];rfl)
   go_enter Tryz.func157,Tryz.ntmps157
   go_wp2_with (go_at_call 58;refine (zxd _ _).mono ?_;rintro e w' ⟨rfl,rfl⟩)
   go_ret
   exact ⟨zqj HE.out.symm,rfl⟩
  ·
   have HE:=hd_ (show standB n y = false by unfold standB;rw [decide_eq_false h2,Bool.and_false];rfl)
   have t2 : decide (n ≥ 20) = false:=decide_eq_false (by omega)
   go_enter Tryz.func157,Tryz.ntmps157
   go_wp2_with (go_at_call 58;refine (zxd _ _).mono ?_;rintro e w' ⟨rfl,rfl⟩)
   go_ret
   exact ⟨zqj HE.out.symm,rfl⟩
theorem s_Allow (size few all sf s amt : Int) (good : Bool) (w : World) (b1 : -1000 ≤ sf∧sf ≤ 1000) (b2 : -1000 ≤ s∧s ≤ 1000) :
  Calls Tryz.prog 156 #[.int .i64 size,.int .i64 few,.int .i64 all,.int .i64 sf,.int .i64 s,.int .i64 amt,.bool good] w fun e w' => e = .returned (.int .i64 (allowF size few all sf s amt good))∧w = w':=by
 have none : ∀ h : (amtB size && amtB few && amtB all && amtB amt && decide (0 ≤ sf) && decide (0 ≤ s) && decide (few ≤ all) && decide (sf ≤ s)) = false,allowF size few all sf s amt good = 0:=fun h => by unfold allowF;rw [if_pos h]
 cases h1 : amtB size
 ·
  have HE:=hd_ (none (by rw [h1];rfl))
  clear none
  go_enter Tryz.func156,Tryz.ntmps156
  go_wp2_with (go_at_call 56;refine (zqu _ _).mono ?_;rintro e w' ⟨rfl,rfl⟩)
  go_ret
  exact ⟨zxk HE.out.symm,rfl⟩
 cases h2 : amtB few
 ·
  have HE:=hd_ (none (by rw [h2];simp))
  clear none
  go_enter Tryz.func156,Tryz.ntmps156
  go_wp2_with (go_at_call 56;refine (zqu _ _).mono ?_;rintro e w' ⟨rfl,rfl⟩)
  go_ret
  exact ⟨zxk HE.out.symm,rfl⟩
 cases h3 : amtB all
 ·
  have HE:=hd_ (none (by rw [h3];simp))
  clear none
  go_enter Tryz.func156,Tryz.ntmps156
  go_wp2_with (go_at_call 56;refine (zqu _ _).mono ?_;rintro e w' ⟨rfl,rfl⟩)
  go_ret
  exact ⟨zxk HE.out.symm,rfl⟩
 cases h4 : amtB amt
 ·
  have HE:=hd_ (none (by rw [h4];simp))
  clear none
  go_enter Tryz.func156,Tryz.ntmps156
  go_wp2_with (go_at_call 56;refine (zqu _ _).mono ?_;rintro e w' ⟨rfl,rfl⟩)
  go_ret
  exact ⟨zxk HE.out.symm,rfl⟩
 by_cases h5 : sf < 0
 ·
  have HE:=hd_ (none (by rw [decide_eq_false (show ¬ 0 ≤ sf by omega)];simp))
  clear none
  go_enter Tryz.func156,Tryz.ntmps156
  go_wp2_with (go_at_call 56;refine (zqu _ _).mono ?_;rintro e w' ⟨rfl,rfl⟩)
  go_ret
  exact ⟨zxk HE.out.symm,rfl⟩
 by_cases h6 : s < 0
 ·
  have HE:=hd_ (none (by rw [decide_eq_false (show ¬ 0 ≤ s by omega)];simp))
  clear none
  have t5 : decide (sf < 0) = false:=decide_eq_false h5
  go_enter Tryz.func156,Tryz.ntmps156
  go_wp2_with (go_at_call 56;refine (zqu _ _).mono ?_;rintro e w' ⟨rfl,rfl⟩)
  go_ret
  exact ⟨zxk HE.out.symm,rfl⟩
 have t5 : decide (sf < 0) = false:=decide_eq_false h5
 have t6 : decide (s < 0) = false:=decide_eq_false h6
 by_cases h7 : all < few
 ·
  have HE:=hd_ (none (by rw [decide_eq_false (show ¬ few ≤ all by omega)];simp))
  clear none
  go_enter Tryz.func156,Tryz.ntmps156
  go_wp2_with (go_at_call 56;refine (zqu _ _).mono ?_;rintro e w' ⟨rfl,rfl⟩)
  go_ret
  exact ⟨zxk HE.out.symm,rfl⟩
 have t7 : decide (few > all) = false:=decide_eq_false (by omega)
 by_cases h8 : s < sf
 ·
  have HE:=hd_ (none (by rw [decide_eq_false (show ¬ sf ≤ s by omega)];simp))
  clear none
  go_enter Tryz.func156,Tryz.ntmps156
  go_wp2_with (go_at_call 56;refine (zqu _ _).mono ?_;rintro e w' ⟨rfl,rfl⟩)
  go_ret
  exact ⟨zxk HE.out.symm,rfl⟩
 have t8 : decide (sf > s) = false:=decide_eq_false (by omega)
 clear none
 have HA:=hd_ (show allowF size few all sf s amt good = if 10 ≤ s ∨ size < all + amt then 0 else if sf < 5∧few + amt ≤ size / 2 then 1 else if good = true then 2 else 0 by
  unfold allowF
  rw [if_neg]
  rw [h1,h2,h3,h4,decide_eq_true (show 0 ≤ sf by omega),decide_eq_true (show 0 ≤ s by omega),decide_eq_true (show few ≤ all by omega),decide_eq_true (show sf ≤ s by omega)]
  simp)
 obtain ⟨x1,y1⟩:=zxy.1 h1
 obtain ⟨x2,y2⟩:=zxy.1 h2
 obtain ⟨x3,y3⟩:=zxy.1 h3
 obtain ⟨x4,y4⟩:=zxy.1 h4
 by_cases g1 : 10 ≤ s
 ·
  have HE:=hd_ (show allowF size few all sf s amt good = 0 by rw [HA.out,if_pos (Or.inl g1)])
  go_enter Tryz.func156,Tryz.ntmps156
  go_wp2_with (go_at_call 56;refine (zqu _ _).mono ?_;rintro e w' ⟨rfl,rfl⟩)
  go_ret
  exact ⟨zxk HE.out.symm,rfl⟩
 have t9 : decide (s ≥ 10) = false:=decide_eq_false (by omega)
 by_cases g2 : size < all + amt
 ·
  have HE:=hd_ (show allowF size few all sf s amt good = 0 by rw [HA.out,if_pos (Or.inr g2)])
  go_enter Tryz.func156,Tryz.ntmps156
  go_wp2_with (go_at_call 56;refine (zqu _ _).mono ?_;rintro e w' ⟨rfl,rfl⟩)
  go_ret
  exact ⟨zxk HE.out.symm,rfl⟩
 have u2 : decide (all + amt > size) = false:=decide_eq_false (by omega)
 have HB:=hd_ (show allowF size few all sf s amt good = if sf < 5∧few + amt ≤ size / 2 then 1 else if good = true then 2 else 0 by rw [HA.out,if_neg (by omega)])
 by_cases g3 : sf < 5
 ·
  by_cases g4 : few + amt ≤ size / 2
  ·
   have HE:=hd_ (show allowF size few all sf s amt good = 1 by rw [HB.out,if_pos ⟨g3,g4⟩])
   go_enter Tryz.func156,Tryz.ntmps156
   go_wp2_with (go_at_call 56;refine (zqu _ _).mono ?_;rintro e w' ⟨rfl,rfl⟩)
   go_ret
   exact ⟨zxk HE.out.symm,rfl⟩
  ·
   have u4 : decide (few + amt ≤ size / 2) = false:=decide_eq_false g4
   cases good
   ·
    have HE:=hd_ (show allowF size few all sf s amt false = 0 by rw [HB.out,if_neg (fun h => g4 h.2)];rfl)
    go_enter Tryz.func156,Tryz.ntmps156
    go_wp2_with (go_at_call 56;refine (zqu _ _).mono ?_;rintro e w' ⟨rfl,rfl⟩)
    go_ret
    exact ⟨zxk HE.out.symm,rfl⟩
   ·
    have HE:=hd_ (show allowF size few all sf s amt true = 2 by rw [HB.out,if_neg (fun h => g4 h.2)];rfl)
    go_enter Tryz.func156,Tryz.ntmps156
    go_wp2_with (go_at_call 56;refine (zqu _ _).mono ?_;rintro e w' ⟨rfl,rfl⟩)
    go_ret
    exact ⟨zxk HE.out.symm,rfl⟩
 ·
  have u3 : decide (sf < 5) = false:=decide_eq_false g3
  cases good
  ·
   have HE:=hd_ (show allowF size few all sf s amt false = 0 by rw [HB.out,if_neg (fun h => g3 h.1)];rfl)
   go_enter Tryz.func156,Tryz.ntmps156
   go_wp2_with (go_at_call 56;refine (zqu _ _).mono ?_;rintro e w' ⟨rfl,rfl⟩)
   go_ret
   exact ⟨zxk HE.out.symm,rfl⟩
  ·
   have HE:=hd_ (show allowF size few all sf s amt true = 2 by rw [HB.out,if_neg (fun h => g3 h.1)];rfl)
   go_enter Tryz.func156,Tryz.ntmps156
   go_wp2_with (go_at_call 56;refine (zqu _ _).mono ?_;rintro e w' ⟨rfl,rfl⟩)
   go_ret
   exact ⟨zxk HE.out.symm,rfl⟩
theorem zmw {ppm n : Int} (hn : 0 ≤ n∧n ≤ 1125899906842624) (hp : 0 ≤ ppm∧ppm ≤ 1000000) : divB n ppm 1000000 = true∧0 ≤ n * ppm / 1000000∧n * ppm / 1000000 ≤ 1125899906842624∧0 ≤ n * ppm % 1000000∧n * ppm % 1000000 < 1000000:=by
 have h1 : n * ppm ≤ 1125899906842624 * 1000000:=Int.mul_le_mul hn.2 hp.2 hp.1 (by omega)
 have h0 : 0 ≤ n * ppm:=Int.mul_nonneg hn.1 hp.1
 obtain ⟨m,hm⟩ : ∃ m,n * ppm = m:=⟨_,rfl⟩
 unfold divB
 rw [hm] at h1 h0 ⊢
 refine ⟨decide_eq_true (by omega),by omega,by omega,by omega,by omega⟩
theorem zwd {base ppm n : Int} (h : (amtB base && amtB n && inB ppm 0 1000000) = false) : feeOk base ppm n = false∧feeV base ppm n = 0:=by
 have h2 : feeOk base ppm n = false:=by unfold feeOk;rw [h];rfl
 exact ⟨h2,by unfold feeV;rw [h2];rfl⟩
set_option maxHeartbeats 1000000 in
theorem s_l01Fee (base ppm n : Int) (w : World) : Calls Tryz.prog 155 #[.int .i64 base,.int .i64 ppm,.int .i64 n,.bool true] w fun e w' => e = .returned (.tuple #[.int .i64 (feeV base ppm n),.bool (feeOk base ppm n)])∧w = w':=by
 cases h1 : amtB base
 ·
  have HE:=hd_ (zwd (base:=base) (ppm:=ppm) (n:=n) (by rw [h1];rfl))
  go_enter Tryz.func155,Tryz.ntmps155
  go_wp2_with (go_at_call 56;refine (zqu _ _).mono ?_;rintro e w' ⟨rfl,rfl⟩)
  go_ret2
  exact ⟨by rw [HE.out.1,HE.out.2];rfl,rfl⟩
 cases h2 : amtB n
 ·
  have HE:=hd_ (zwd (base:=base) (ppm:=ppm) (n:=n) (by rw [h2];simp))
  go_enter Tryz.func155,Tryz.ntmps155
  go_wp2_with (go_at_call 56;refine (zqu _ _).mono ?_;rintro e w' ⟨rfl,rfl⟩)
  go_ret2
  exact ⟨by rw [HE.out.1,HE.out.2];rfl,rfl⟩
 by_cases h3 : ppm < 0
 ·
  have HE:=hd_ (zwd (base:=base) (ppm:=ppm) (n:=n) (by rw [show inB ppm 0 1000000 = false by unfold inB;exact decide_eq_false (by omega)];simp))
  go_enter Tryz.func155,Tryz.ntmps155
  go_wp2_with (go_at_call 56;refine (zqu _ _).mono ?_;rintro e w' ⟨rfl,rfl⟩)
  go_ret2
  exact ⟨by rw [HE.out.1,HE.out.2];rfl,rfl⟩
 have t3 : decide (ppm < 0) = false:=decide_eq_false h3
 by_cases h4 : 1000000 < ppm
 ·
  have HE:=hd_ (zwd (base:=base) (ppm:=ppm) (n:=n) (by rw [show inB ppm 0 1000000 = false by unfold inB;exact decide_eq_false (by omega)];simp))
  go_enter Tryz.func155,Tryz.ntmps155
  go_wp2_with (go_at_call 56;refine (zqu _ _).mono ?_;rintro e w' ⟨rfl,rfl⟩)
  go_ret2
  exact ⟨by rw [HE.out.1,HE.out.2];rfl,rfl⟩
 have t4 : decide (ppm > 1000000) = false:=decide_eq_false (by omega)
 obtain ⟨a1,a2⟩:=zxy.1 h1
 obtain ⟨n1,n2⟩:=zxy.1 h2
 obtain ⟨d0,d1,d2,d3,d4⟩:=zmw (ppm:=ppm) (n:=n) ⟨n1,n2⟩ ⟨by omega,by omega⟩
 have HQ:=hd_ (show divQ n ppm 1000000 = n * ppm / 1000000 by unfold divQ;rw [if_pos d0])
 have HR:=hd_ (show divR n ppm 1000000 = n * ppm % 1000000 by unfold divR;rw [if_pos d0])
 have HD:=hd_ d0
 have HOk:=hd_ (show feeOk base ppm n = (amtB (feeQ ppm n) && amtB (base + feeQ ppm n)) by
  unfold feeOk
  rw [h1,h2,show inB ppm 0 1000000 = true from zxx.2 ⟨by omega,by omega⟩]
  rfl)
 have HV:=hd_ (show feeV base ppm n = if feeOk base ppm n = true then base + feeQ ppm n else 0 from rfl)
 have HQF:=hd_ (show feeQ ppm n = n * ppm / 1000000 + (if 0 < n * ppm % 1000000 then 1 else 0) from rfl)
 obtain ⟨q,hq⟩ : ∃ q,n * ppm / 1000000 = q:=⟨_,rfl⟩
 obtain ⟨r,hr⟩ : ∃ r,n * ppm % 1000000 = r:=⟨_,rfl⟩
 rw [hq] at d1 d2 HQ HQF
 rw [hr] at d3 d4 HR HQF
 clear d0 hq hr
 by_cases hr0 : 0 < r
 ·
  have HF:=hd_ (show feeQ ppm n = q + 1 by rw [HQF.out,if_pos hr0])
  go_enter Tryz.func155,Tryz.ntmps155
  go_wp2_with (go_at_call 56;refine (zqu _ _).mono ?_;rintro e w' ⟨rfl,rfl⟩)
  refine (zmp n ppm 1000000 _ ⟨n1,n2⟩ ⟨by omega,by omega⟩ (by decide)).mono ?_
  rintro e w' ⟨rfl,rfl⟩
  rw [HQ.out,HR.out,HD.out]
  go_wp2_with fail
  cases hs : (amtB base && amtB (q + 1) && amtB (base + (q + 1)))
  ·
   have HO2:=hd_ (show feeOk base ppm n = false by rw [HOk.out,HF.out];simpa [h1] using hs)
   refine (zjo _ _ _ hs).mono ?_
   rintro e w' ⟨rfl,rfl⟩
   go_wp2_with fail
   go_ret2
   exact ⟨by rw [HV.out,HO2.out];rfl,rfl⟩
  ·
   simp only [Bool.and_eq_true] at hs
   have HO2:=hd_ (show feeOk base ppm n = true by rw [HOk.out,HF.out,hs.1.2,hs.2];rfl)
   refine (zji _ _ _ hs.1.1 hs.1.2 hs.2).mono ?_
   rintro e w' ⟨rfl,rfl⟩
   go_wp2_with fail
   go_ret2
   exact ⟨by rw [HV.out,HO2.out,if_pos rfl,HF.out];rfl,rfl⟩
 ·
  have HF:=hd_ (show feeQ ppm n = q by rw [HQF.out,if_neg hr0,Int.add_zero])
  have tr : decide (r > 0) = false:=decide_eq_false (by omega)
  go_enter Tryz.func155,Tryz.ntmps155
  go_wp2_with (go_at_call 56;refine (zqu _ _).mono ?_;rintro e w' ⟨rfl,rfl⟩)
  refine (zmp n ppm 1000000 _ ⟨n1,n2⟩ ⟨by omega,by omega⟩ (by decide)).mono ?_
  rintro e w' ⟨rfl,rfl⟩
  rw [HQ.out,HR.out,HD.out]
  go_wp2_with fail
  cases hs : (amtB base && amtB q && amtB (base + q))
  ·
   have HO2:=hd_ (show feeOk base ppm n = false by rw [HOk.out,HF.out];simpa [h1] using hs)
   refine (zjo _ _ _ hs).mono ?_
   rintro e w' ⟨rfl,rfl⟩
   go_wp2_with fail
   go_ret2
   exact ⟨by rw [HV.out,HO2.out];rfl,rfl⟩
  ·
   simp only [Bool.and_eq_true] at hs
   have HO2:=hd_ (show feeOk base ppm n = true by rw [HOk.out,HF.out,hs.1.2,hs.2];rfl)
   refine (zji _ _ _ hs.1.1 hs.1.2 hs.2).mono ?_
   rintro e w' ⟨rfl,rfl⟩
   go_wp2_with fail
   go_ret2
   exact ⟨by rw [HV.out,HO2.out,if_pos rfl,HF.out];rfl,rfl⟩
theorem s_FeeUp (base ppm n : Int) (w : World) : Calls Tryz.prog 111 #[.int .i64 base,.int .i64 ppm,.int .i64 n] w fun e w' => e = .returned (.tuple #[.int .i64 (feeV base ppm n),.bool (feeOk base ppm n)])∧w = w':=by
 go_enter Tryz.func111,Tryz.ntmps111
 go_wp2_with fail
 refine (s_l01Fee _ _ _ _).mono ?_
 rintro e w' ⟨rfl,rfl⟩
 go_wp2_with fail
 go_ret2
 exact ⟨rfl,rfl⟩
end Go.Proofs.YtdbmkfmenfcbiaaGreat
namespace Go.Proofs.YtdbmkfmenfcbiaaGreat
open Go.RowKit Go.Deep
def wkTs (T : TypeId) : List TypeId:=[T,103,70,93,99]
def wkCells (b : Bk) (L : List Line) (code : Int) (A1 A2 A3 A4 : Option Addr) (p1 p2 p3 p4 : Nat) : Array Value :=
 #[.int .i64 b.t,.int .i64 b.n,.int .i64 b.w,.slice A1 b.cs.length p1,.slice A2 b.hs.length p2,.slice A3 b.os.length p3,.slice A4 L.length p4,.int .i64 code]
structure Wk (T : TypeId) (w0 w : World) (B X : Nat) (b : Bk) (L : List Line) (code : Int) (A1 A2 A3 A4 : Option Addr) (p1 p2 p3 p4 : Nat) : Prop where
 x : w.heap[X]? = some (.cells #[.int .i64 b.t,.int .i64 b.n,.int .i64 b.w,.slice A1 b.cs.length p1,.slice A2 b.hs.length p2,.slice A3 b.os.length p3,.slice A4 L.length p4,.int .i64 code] T (0,0))
 o : OwB w B b A1 A2 A3 p1 p2 p3
 l : Ow w B 99 3 (.slice A4 L.length p4) (L.map Line.cells)
 b : Below B w0 w
 f : Fr (wkTs T) w0 w
 bx : B ≤ X
section
variable {T : TypeId} {w0 w w' : World} {B X : Nat} {b : Bk} {L : List Line} {code : Int} {A1 A2 A3 A4 : Option Addr} {p1 p2 p3 p4 : Nat}
theorem Wk.lt (h : Wk T w0 w B X b L code A1 A2 A3 A4 p1 p2 p3 p4) : X < w.heap.size:=(gz_ h.x).1
theorem Wk.ble (h : Wk T w0 w B X b L code A1 A2 A3 A4 p1 p2 p3 p4) : B ≤ w.heap.size:=by have:=h.lt;have:=h.bx;omega
theorem Wk.below (h : Wk T w0 w B X b L code A1 A2 A3 A4 p1 p2 p3 p4) (hb : Below w.heap.size w w') : Wk T w0 w' B X b L code A1 A2 A3 A4 p1 p2 p3 p4 :=
 ⟨(hb.block X h.lt).trans h.x,h.o.below hb,h.l.below hb,h.b.trans (hb.mono h.ble),h.f.below hb,h.bx⟩
theorem Wk.alloc (h : Wk T w0 w B X b L code A1 A2 A3 A4 p1 p2 p3 p4) (o : Obj) : Wk T w0 (w.alloc o) B X b L code A1 A2 A3 A4 p1 p2 p3 p4:=h.below ((Below.refl _ _).alloc (Nat.le_refl _) o)
theorem Wk.drew (h : Wk T w0 w B X b L code A1 A2 A3 A4 p1 p2 p3 p4) : Wk T w0 w.drew B X b L code A1 A2 A3 A4 p1 p2 p3 p4:=⟨h.x,h.o.drew,h.l,h.b.drew,h.f.drew,h.bx⟩
theorem Wk.here (h : Wk T w0 w B X b L code A1 A2 A3 A4 p1 p2 p3 p4) : Wk T w w B X b L code A1 A2 A3 A4 p1 p2 p3 p4:=⟨h.x,h.o,h.l,Below.refl _ _,Fr.refl _ _,h.bx⟩
theorem Wk.trans (h0 : Wk T w0 w B X b L code A1 A2 A3 A4 p1 p2 p3 p4) {b' : Bk} {L' : List Line} {code' : Int} {C1 C2 C3 C4 : Option Addr} {q1 q2 q3 q4 : Nat} (h : Wk T w w' B X b' L' code' C1 C2 C3 C4 q1 q2 q3 q4) : Wk T w0 w' B X b' L' code' C1 C2 C3 C4 q1 q2 q3 q4 :=
 ⟨h.x,h.o,h.l,h0.b.trans h.b,h0.f.trans h.f,h.bx⟩
theorem Wk.box (h : Wk T w w' B X b L code A1 A2 A3 A4 p1 p2 p3 p4) {k : Nat} {cs : Array Value} {t : TypeId} (hk : w.heap[k]? = some (.cells cs t (0,0))) (ht : t ∉ wkTs T) : w'.heap[k]? = some (.cells cs t (0,0)):=h.f.box hk ht
theorem Wk.cell (h : Wk T w0 w B X b L code A1 A2 A3 A4 p1 p2 p3 p4) (i : Nat) : w.cell? ⟨X,i,none⟩ = (wkCells b L code A1 A2 A3 A4 p1 p2 p3 p4)[i]?:=zqf h.x i
theorem Wk.open_ (h : Wk T w0 w B X b L code A1 A2 A3 A4 p1 p2 p3 p4) : w.cell? ⟨X,0,none⟩ = some (.int .i64 b.t)∧w.cell? ⟨X,1,none⟩ = some (.int .i64 b.n)∧w.cell? ⟨X,2,none⟩ = some (.int .i64 b.w)∧w.cell? ⟨X,3,none⟩ = some (.slice A1 b.cs.length p1)∧w.cell? ⟨X,4,none⟩ = some (.slice A2 b.hs.length p2)∧w.cell? ⟨X,5,none⟩ = some (.slice A3 b.os.length p3)∧w.cell? ⟨X,6,none⟩ = some (.slice A4 L.length p4)∧w.cell? ⟨X,7,none⟩ = some (.int .i64 code)∧(∀ i,w.frozen? ⟨X,i,none⟩ = false)∧X < w.heap.size :=
 ⟨zqf h.x 0,zqf h.x 1,zqf h.x 2,zqf h.x 3,zqf h.x 4,zqf h.x 5,zqf h.x 6,zqf h.x 7,zqo h.x,h.lt⟩
theorem Wk.set (h : Wk T w0 w B X b L code A1 A2 A3 A4 p1 p2 p3 p4) (hT1 : 103 ≠ T) (hT2 : 70 ≠ T) (hT3 : 93 ≠ T) (hT4 : 99 ≠ T) (i : Nat) (u : Value) :
  OwB (w.setCell ⟨X,i,none⟩ u) B b A1 A2 A3 p1 p2 p3∧Ow (w.setCell ⟨X,i,none⟩ u) B 99 3 (.slice A4 L.length p4) (L.map Line.cells)∧Below B w0 (w.setCell ⟨X,i,none⟩ u)∧Fr (wkTs T) w0 (w.setCell ⟨X,i,none⟩ u) :=
 ⟨h.o.aside h.x hT1 hT2 hT3 u,h.l.aside h.x hT4 u,h.b.setCell h.bx u,h.f.set h.x (by simp [wkTs]) u⟩
theorem Wk.setCode (h : Wk T w0 w B X b L code A1 A2 A3 A4 p1 p2 p3 p4) (hT1 : 103 ≠ T) (hT2 : 70 ≠ T) (hT3 : 93 ≠ T) (hT4 : 99 ≠ T) (c : Int) : Wk T w0 (w.setCell ⟨X,7,none⟩ (.int .i64 c)) B X b L c A1 A2 A3 A4 p1 p2 p3 p4 :=
 ⟨zqa h.x,(h.set hT1 hT2 hT3 hT4 7 _).1,(h.set hT1 hT2 hT3 hT4 7 _).2.1,(h.set hT1 hT2 hT3 hT4 7 _).2.2.1,(h.set hT1 hT2 hT3 hT4 7 _).2.2.2,h.bx⟩
theorem Wk.setWallet (h : Wk T w0 w B X b L code A1 A2 A3 A4 p1 p2 p3 p4) (hT1 : 103 ≠ T) (hT2 : 70 ≠ T) (hT3 : 93 ≠ T) (hT4 : 99 ≠ T) (c : Int) : Wk T w0 (w.setCell ⟨X,2,none⟩ (.int .i64 c)) B X ⟨b.t,b.n,c,b.cs,b.hs,b.os⟩ L code A1 A2 A3 A4 p1 p2 p3 p4 :=
 ⟨zqa h.x,⟨(h.set hT1 hT2 hT3 hT4 2 _).1.c,(h.set hT1 hT2 hT3 hT4 2 _).1.h,(h.set hT1 hT2 hT3 hT4 2 _).1.o⟩,(h.set hT1 hT2 hT3 hT4 2 _).2.1,(h.set hT1 hT2 hT3 hT4 2 _).2.2.1,(h.set hT1 hT2 hT3 hT4 2 _).2.2.2,h.bx⟩
theorem Wk.setTick (h : Wk T w0 w B X b L code A1 A2 A3 A4 p1 p2 p3 p4) (hT1 : 103 ≠ T) (hT2 : 70 ≠ T) (hT3 : 93 ≠ T) (hT4 : 99 ≠ T) (c : Int) : Wk T w0 (w.setCell ⟨X,0,none⟩ (.int .i64 c)) B X ⟨c,b.n,b.w,b.cs,b.hs,b.os⟩ L code A1 A2 A3 A4 p1 p2 p3 p4 :=
 ⟨zqa h.x,⟨(h.set hT1 hT2 hT3 hT4 0 _).1.c,(h.set hT1 hT2 hT3 hT4 0 _).1.h,(h.set hT1 hT2 hT3 hT4 0 _).1.o⟩,(h.set hT1 hT2 hT3 hT4 0 _).2.1,(h.set hT1 hT2 hT3 hT4 0 _).2.2.1,(h.set hT1 hT2 hT3 hT4 0 _).2.2.2,h.bx⟩
theorem Wk.setNext (h : Wk T w0 w B X b L code A1 A2 A3 A4 p1 p2 p3 p4) (hT1 : 103 ≠ T) (hT2 : 70 ≠ T) (hT3 : 93 ≠ T) (hT4 : 99 ≠ T) (c : Int) : Wk T w0 (w.setCell ⟨X,1,none⟩ (.int .i64 c)) B X ⟨b.t,c,b.w,b.cs,b.hs,b.os⟩ L code A1 A2 A3 A4 p1 p2 p3 p4 :=
 ⟨zqa h.x,⟨(h.set hT1 hT2 hT3 hT4 1 _).1.c,(h.set hT1 hT2 hT3 hT4 1 _).1.h,(h.set hT1 hT2 hT3 hT4 1 _).1.o⟩,(h.set hT1 hT2 hT3 hT4 1 _).2.1,(h.set hT1 hT2 hT3 hT4 1 _).2.2.1,(h.set hT1 hT2 hT3 hT4 1 _).2.2.2,h.bx⟩
theorem Wk.setC (h : Wk T w0 w B X b L code A1 A2 A3 A4 p1 p2 p3 p4) (hT1 : 103 ≠ T) (hT2 : 70 ≠ T) (hT3 : 93 ≠ T) (hT4 : 99 ≠ T) {cs : List Chan} {C : Option Addr} {q : Nat} (hC : Ow w B 103 7 (.slice C cs.length q) (cs.map Chan.cells)) :
  Wk T w0 (w.setCell ⟨X,3,none⟩ (.slice C cs.length q)) B X ⟨b.t,b.n,b.w,cs,b.hs,b.os⟩ L code C A2 A3 A4 q p2 p3 p4 :=
 ⟨zqa h.x,⟨hC.aside h.x hT1 _,(h.set hT1 hT2 hT3 hT4 3 _).1.h,(h.set hT1 hT2 hT3 hT4 3 _).1.o⟩,(h.set hT1 hT2 hT3 hT4 3 _).2.1,(h.set hT1 hT2 hT3 hT4 3 _).2.2.1,(h.set hT1 hT2 hT3 hT4 3 _).2.2.2,h.bx⟩
theorem Wk.setH (h : Wk T w0 w B X b L code A1 A2 A3 A4 p1 p2 p3 p4) (hT1 : 103 ≠ T) (hT2 : 70 ≠ T) (hT3 : 93 ≠ T) (hT4 : 99 ≠ T) {hs : List Htlc} {C : Option Addr} {q : Nat} (hC : Ow w B 70 7 (.slice C hs.length q) (hs.map Htlc.cells)) :
  Wk T w0 (w.setCell ⟨X,4,none⟩ (.slice C hs.length q)) B X ⟨b.t,b.n,b.w,b.cs,hs,b.os⟩ L code A1 C A3 A4 p1 q p3 p4 :=
 ⟨zqa h.x,⟨(h.set hT1 hT2 hT3 hT4 4 _).1.c,hC.aside h.x hT2 _,(h.set hT1 hT2 hT3 hT4 4 _).1.o⟩,(h.set hT1 hT2 hT3 hT4 4 _).2.1,(h.set hT1 hT2 hT3 hT4 4 _).2.2.1,(h.set hT1 hT2 hT3 hT4 4 _).2.2.2,h.bx⟩
theorem Wk.setO (h : Wk T w0 w B X b L code A1 A2 A3 A4 p1 p2 p3 p4) (hT1 : 103 ≠ T) (hT2 : 70 ≠ T) (hT3 : 93 ≠ T) (hT4 : 99 ≠ T) {os : List Circle} {C : Option Addr} {q : Nat} (hC : Ow w B 93 5 (.slice C os.length q) (os.map Circle.cells)) :
  Wk T w0 (w.setCell ⟨X,5,none⟩ (.slice C os.length q)) B X ⟨b.t,b.n,b.w,b.cs,b.hs,os⟩ L code A1 A2 C A4 p1 p2 q p4 :=
 ⟨zqa h.x,⟨(h.set hT1 hT2 hT3 hT4 5 _).1.c,(h.set hT1 hT2 hT3 hT4 5 _).1.h,hC.aside h.x hT3 _⟩,(h.set hT1 hT2 hT3 hT4 5 _).2.1,(h.set hT1 hT2 hT3 hT4 5 _).2.2.1,(h.set hT1 hT2 hT3 hT4 5 _).2.2.2,h.bx⟩
theorem Wk.setL (h : Wk T w0 w B X b L code A1 A2 A3 A4 p1 p2 p3 p4) (hT1 : 103 ≠ T) (hT2 : 70 ≠ T) (hT3 : 93 ≠ T) (hT4 : 99 ≠ T) {L' : List Line} {C : Option Addr} {q : Nat} (hC : Ow w B 99 3 (.slice C L'.length q) (L'.map Line.cells)) :
  Wk T w0 (w.setCell ⟨X,6,none⟩ (.slice C L'.length q)) B X b L' code A1 A2 A3 C p1 p2 p3 q :=
 ⟨zqa h.x,(h.set hT1 hT2 hT3 hT4 6 _).1,hC.aside h.x hT4 _,(h.set hT1 hT2 hT3 hT4 6 _).2.2.1,(h.set hT1 hT2 hT3 hT4 6 _).2.2.2,h.bx⟩
end
end Go.Proofs.YtdbmkfmenfcbiaaGreat
namespace Go.Proofs.YtdbmkfmenfcbiaaGreat
open Go.RowKit Go.Deep
set_option maxRecDepth 100000 in
set_option maxHeartbeats 4000000 in
theorem zwv (bt bn bw : Int) (cs : List Chan) (hs : List Htlc) (os : List Circle) (A1 A2 A3 : Option Addr) (p1 p2 p3 : Nat) (ch : Int) (w : World) (h60 : hs.length ≤ 60) (h20 : os.length ≤ 20) (hr : RdBook w w.heap.size A1 cs A2 hs A3 os) :
  Calls Tryz.prog 110 #[.agg #[.int .i64 bt,.int .i64 bn,.int .i64 bw,.slice A1 cs.length p1,.slice A2 hs.length p2,.slice A3 os.length p3],.int .i64 ch] w fun e w' => e = .returned (.bool (busyB hs os ch))∧Below w.heap.size w w':=by
 have HH:=hd_ hr.h
 have HO:=hd_ hr.o
 clear hr
 go_enter Tryz.func110,Tryz.ntmps110
 go_wp2_with fail
 go_loopw [12] (fun i wr => ∃ k : Nat,k ≤ hs.length∧i = .int .i64 k∧Hid ((hs.take k).any (usesH ch) = false)∧wr.heap[w.heap.size]? = some (.cells #[.int .i64 bt,.int .i64 bn,.int .i64 bw,.slice A1 cs.length p1,.slice A2 hs.length p2,.slice A3 os.length p3] 39 (0,0))∧Below w.heap.size w wr) (fun i _ => hs.length - (intOf i).toNat)
 case atStart => exact ⟨0,Nat.zero_le _,rfl,hd_ rfl,zqm rfl,bl_⟩
 case round =>
  obtain ⟨k,hk,rfl,HA,hbox,hbw⟩:=hrel
  have hbz:=hbw.size
  obtain ⟨eh,e0,e1,e2,e3,e4,e5,ef,ezz⟩:=own6 (Below.refl wr.heap.size wr) (gz_ hbox).1 hbox
  have EH:=hd_ eh
  clear eh hbox
  by_cases hlt : k < hs.length
  ·
   obtain ⟨b,off,rfl,hbB,c0,c1,c2,c3,c4,c5,c6⟩:=Htlc.rd (HH.out.below hbw) hlt
   clear e0 e1 e2 e3 e4 e5 ef
   have Fx:=hd_ (zju hs (usesH ch) hlt)
   have HT:=hd_ (fun hp => zvz hs (usesH ch) hlt hp)
   cases t1 : (hs[k].In == ch)
   ·
    cases t2 : (hs[k].Out == ch)
    ·
     have Kx:=hd_ (show usesH ch hs[k] = false by simp only [usesH,t1,t2];rfl)
     go_wp2_with fail
     go_roundw
     case rel => exact ⟨k + 1,by omega,by go_num,hd_ (by rw [Fx.out,HA.out,Kx.out];rfl),zqg ezz EH.out,bl_⟩
     case measure => simp [intOf];omega
    ·
     have Kx:=hd_ (show busyB hs os ch = true by unfold busyB;rw [HT.out (by simp only [usesH,t2,Bool.or_true])];rfl)
     go_wp2_with fail
     go_ret
     exact ⟨zqj Kx.out.symm,bl_⟩
   ·
    have Kx:=hd_ (show busyB hs os ch = true by unfold busyB;rw [HT.out (by simp only [usesH,t1,Bool.true_or])];rfl)
    go_wp2_with fail
    go_ret
    exact ⟨zqj Kx.out.symm,bl_⟩
  ·
   obtain rfl : k = hs.length:=by omega
   have qx:=HA.out
   rw [List.take_length] at qx
   have Qx:=hd_ qx
   clear qx
   go_wp2_with fail
   obtain ⟨wo,rfl⟩ : ∃ wo : World,wo = wr:=⟨_,rfl⟩
   go_loopw [30] (fun i wr => ∃ k : Nat,k ≤ os.length∧i = .int .i64 k∧Hid ((os.take k).any (usesC ch) = false)∧wr.heap[w.heap.size]? = some (.cells #[.int .i64 bt,.int .i64 bn,.int .i64 bw,.slice A1 cs.length p1,.slice A2 hs.length p2,.slice A3 os.length p3] 39 (0,0))∧Below w.heap.size w wr) (fun i _ => os.length - (intOf i).toNat)
   case atStart => exact ⟨0,Nat.zero_le _,rfl,hd_ rfl,EH.out,bl_⟩
   case round =>
    obtain ⟨k,hk,rfl,HA,hbox,hbw⟩:=hrel
    have hbz:=hbw.size
    obtain ⟨eh,e0,e1,e2,e3,e4,e5,ef,ezz⟩:=own6 (Below.refl wr.heap.size wr) (gz_ hbox).1 hbox
    have EH:=hd_ eh
    clear eh hbox
    by_cases hlt : k < os.length
    ·
     obtain ⟨b,off,rfl,hbB,c0,c1,c2,c3,c4⟩:=Circle.rd (HO.out.below hbw) hlt
     clear e0 e1 e2 e3 e4 e5 ef
     have Fx:=hd_ (zju os (usesC ch) hlt)
     have HT:=hd_ (fun hp => zvz os (usesC ch) hlt hp)
     cases t1 : (os[k].From == ch)
     ·
      cases t2 : (os[k].To == ch)
      ·
       have Kx:=hd_ (show usesC ch os[k] = false by simp only [usesC,t1,t2];rfl)
       go_wp2_with fail
       go_roundw
       case rel => exact ⟨k + 1,by omega,by go_num,hd_ (by rw [Fx.out,HA.out,Kx.out];rfl),zqg ezz EH.out,bl_⟩
       case measure => simp [intOf];omega
      ·
       have Kx:=hd_ (show busyB hs os ch = true by unfold busyB;rw [HT.out (by simp only [usesC,t2,Bool.or_true])];simp)
       go_wp2_with fail
       go_ret
       exact ⟨zqj Kx.out.symm,bl_⟩
     ·
      have Kx:=hd_ (show busyB hs os ch = true by unfold busyB;rw [HT.out (by simp only [usesC,t1,Bool.true_or])];simp)
      go_wp2_with fail
      go_ret
      exact ⟨zqj Kx.out.symm,bl_⟩
    ·
     obtain rfl : k = os.length:=by omega
     have qy:=HA.out
     rw [List.take_length] at qy
     have Kx:=hd_ (show busyB hs os ch = false by unfold busyB;rw [Qx.out,qy];rfl)
     clear qy
     go_wp2_with fail
     go_ret
     exact ⟨zqj Kx.out.symm,bl_⟩
theorem Small.few_bd {hs : List Htlc} {os : List Circle} (s : Small hs os) (ch : Int) : ∀ k,k ≤ hs.length → 0 ≤ (hs.take k).foldl (fewH ch) 0∧(hs.take k).foldl (fewH ch) 0 ≤ (k : Int) * 1125899906842624
 | 0,_ => by simp
 | k + 1,hk => by
  obtain ⟨h1,h2⟩:=s.few_bd ch k (by omega)
  obtain ⟨⟨a,b⟩,_⟩:=s.h k (by omega)
  rw [zqq hs _ _ (by omega)]
  unfold fewH at h1 h2 ⊢
  split
  ·
   split <;> omega
  ·
   omega
theorem zsi {hs : List Htlc} (ch : Int) : ∀ k,k ≤ hs.length → 0 ≤ (hs.take k).foldl (slotH ch) 0∧(hs.take k).foldl (slotH ch) 0 ≤ (k : Int)
 | 0,_ => by simp
 | k + 1,hk => by
  obtain ⟨h1,h2⟩:=zsi (hs:=hs) ch k (by omega)
  rw [zqq hs _ _ (by omega)]
  unfold slotH at h1 h2 ⊢
  split <;> omega
theorem zht {hs : List Htlc} (ch : Int) : ∀ k,k ≤ hs.length → 0 ≤ (hs.take k).foldl (slotFewH ch) 0∧(hs.take k).foldl (slotFewH ch) 0 ≤ (k : Int)
 | 0,_ => by simp
 | k + 1,hk => by
  obtain ⟨h1,h2⟩:=zht (hs:=hs) ch k (by omega)
  rw [zqq hs _ _ (by omega)]
  unfold slotFewH at h1 h2 ⊢
  split
  ·
   split <;> omega
  ·
   omega
set_option maxRecDepth 100000 in
set_option maxHeartbeats 4000000 in
theorem zvp (bt bn bw : Int) (cs : List Chan) (hs : List Htlc) (os : List Circle) (A1 A2 A3 : Option Addr) (p1 p2 p3 : Nat) (ci co : Chan) (amt : Int) (yes : Bool) (w : World) (hsm : Small hs os) (hr : RdBook w w.heap.size A1 cs A2 hs A3 os) :
  Calls Tryz.prog 112 #[.agg #[.int .i64 bt,.int .i64 bn,.int .i64 bw,.slice A1 cs.length p1,.slice A2 hs.length p2,.slice A3 os.length p3],.agg #[.int .i64 ci.Id,.int .i64 ci.Size,.int .i64 ci.Local,.int .i64 ci.Remote,.int .i64 ci.Base,.int .i64 ci.Ppm,.int .i64 ci.Score],.agg #[.int .i64 co.Id,.int .i64 co.Size,.int .i64 co.Local,.int .i64 co.Remote,.int .i64 co.Base,.int .i64 co.Ppm,.int .i64 co.Score],.int .i64 amt,.bool yes] w fun e w' => e = .returned (.int .i64 (roomF hs co co.Id amt ci.Score yes))∧Below w.heap.size w w':=by
 have HH:=hd_ hr.h
 have HS:=hd_ hsm
 have h60:=hsm.hl
 clear hr hsm
 obtain ⟨ch,hch⟩ : ∃ ch,co.Id = ch:=⟨_,rfl⟩
 rw [hch]
 have HCH:=hd_ hch
 clear hch
 go_enter Tryz.func112,Tryz.ntmps112
 go_wp2_with fail
 go_loopw [11,12,13,14,20] (fun v1 v2 v3 v4 i wr => ∃ (k : Nat) (x1 x2 x3 x4 : Int),k ≤ hs.length∧i = .int .i64 k∧v1 = .int .i64 x1∧v2 = .int .i64 x2∧v3 = .int .i64 x3∧v4 = .int .i64 x4∧Hid ((hs.take k).foldl (fewH ch) 0 = x1)∧Hid ((hs.take k).foldl (outH ch) 0 = x2)∧Hid ((hs.take k).foldl (slotFewH ch) 0 = x3)∧Hid ((hs.take k).foldl (slotH ch) 0 = x4)
   ∧ wr.heap[w.heap.size]? = some (.cells #[.int .i64 bt,.int .i64 bn,.int .i64 bw,.slice A1 cs.length p1,.slice A2 hs.length p2,.slice A3 os.length p3] 39 (0,0))
   ∧ wr.heap[w.heap.size + 1]? = some (.cells #[.int .i64 ci.Id,.int .i64 ci.Size,.int .i64 ci.Local,.int .i64 ci.Remote,.int .i64 ci.Base,.int .i64 ci.Ppm,.int .i64 ci.Score] 103 (0,0))
   ∧ wr.heap[w.heap.size + 1 + 1]? = some (.cells #[.int .i64 ch,.int .i64 co.Size,.int .i64 co.Local,.int .i64 co.Remote,.int .i64 co.Base,.int .i64 co.Ppm,.int .i64 co.Score] 103 (0,0))∧Below w.heap.size w wr) (fun _ _ _ _ i _ => hs.length - (intOf i).toNat)
 case atStart => exact ⟨0,_,_,_,_,Nat.zero_le _,rfl,rfl,rfl,rfl,rfl,hd_ rfl,hd_ rfl,hd_ rfl,hd_ rfl,zqg (by simp;omega) (zqg (by simp) (zqm rfl)),zqg (by simp) (zqm (by simp)),zqm (by simp),bl_⟩
 case round =>
  obtain ⟨k,x1,x2,x3,x4,hk,rfl,rfl,rfl,rfl,rfl,H1,H2,H3,H4,hbox,hbi,hbo,hbw⟩:=hrel
  have hbz:=hbw.size
  obtain ⟨eh,e0,e1,e2,e3,e4,e5,ef,ezz⟩:=own6 (Below.refl wr.heap.size wr) (gz_ hbox).1 hbox
  have EH:=hd_ eh
  have s6 : wr.cell? ⟨w.heap.size + 1,6,none⟩ = some (.int .i64 ci.Score):=zqf hbi 6
  have o0 : wr.cell? ⟨w.heap.size + 1 + 1,0,none⟩ = some (.int .i64 ch):=zqf hbo 0
  have o1 : wr.cell? ⟨w.heap.size + 1 + 1,1,none⟩ = some (.int .i64 co.Size):=zqf hbo 1
  have oz:=(gz_ hbo).1
  have iz:=(gz_ hbi).1
  have EI:=hd_ hbi
  have EO:=hd_ hbo
  clear eh hbox hbi hbo
  have bd1:=HS.out.few_bd ch k hk
  have bd2:=HS.out.outH_bd ch k hk
  have bd3:=zht (hs:=hs) ch k hk
  have bd4:=zsi (hs:=hs) ch k hk
  rw [H1.out] at bd1
  rw [H2.out] at bd2
  rw [H3.out] at bd3
  rw [H4.out] at bd4
  obtain ⟨l1,u1⟩:=bd1
  obtain ⟨l2,u2⟩:=bd2
  obtain ⟨l3,u3⟩:=bd3
  obtain ⟨l4,u4⟩:=bd4
  by_cases hlt : k < hs.length
  ·
   obtain ⟨b,off,rfl,hbB,c0,c1,c2,c3,c4,c5,c6⟩:=Htlc.rd (HH.out.below hbw) hlt
   obtain ⟨⟨m1,m2⟩,m3,m4⟩:=HS.out.h k hlt
   clear e0 e1 e2 e3 e4 e5 ef s6 o1
   have F1:=hd_ (zqq hs (fewH ch) 0 hlt)
   have F2:=hd_ (zqq hs (outH ch) 0 hlt)
   have F3:=hd_ (zqq hs (slotFewH ch) 0 hlt)
   have F4:=hd_ (zqq hs (slotH ch) 0 hlt)
   cases tx : (hs[k].Out == ch)
   ·
    have tn : (hs[k].Out != ch) = true:=by simp [bne,tx]
    have K1:=hd_ (show fewH ch x1 hs[k] = x1 by simp [fewH,tx])
    have K2:=hd_ (show outH ch x2 hs[k] = x2 by simp [outH,tx])
    have K3:=hd_ (show slotFewH ch x3 hs[k] = x3 by simp [slotFewH,tx])
    have K4:=hd_ (show slotH ch x4 hs[k] = x4 by simp [slotH,tx])
    clear tx
    go_wp2_with fail
    go_roundw
    case rel => exact ⟨k + 1,_,_,_,_,by omega,by go_num,rfl,rfl,rfl,rfl,hd_ (by rw [F1.out,H1.out,K1.out]),hd_ (by rw [F2.out,H2.out,K2.out]),hd_ (by rw [F3.out,H3.out,K3.out]),hd_ (by rw [F4.out,H4.out,K4.out]),zqg ezz EH.out,zqg iz EI.out,zqg oz EO.out,bl_⟩
    case measure => simp [intOf];omega
   ·
    have tn : (hs[k].Out != ch) = false:=by simp [bne,tx]
    cases ty : hs[k].Kept
    ·
     have K1:=hd_ (show fewH ch x1 hs[k] = x1 + hs[k].AmtOut by simp [fewH,tx,ty])
     have K2:=hd_ (show outH ch x2 hs[k] = x2 + hs[k].AmtOut by simp [outH,tx])
     have K3:=hd_ (show slotFewH ch x3 hs[k] = x3 + 1 by simp [slotFewH,tx,ty])
     have K4:=hd_ (show slotH ch x4 hs[k] = x4 + 1 by simp [slotH,tx])
     clear tx
     go_wp2_with fail
     go_roundw
     case rel => exact ⟨k + 1,_,_,_,_,by omega,by go_num,by first | rfl | go_num,by first | rfl | go_num,by first | rfl | go_num,by first | rfl | go_num,hd_ (by rw [F1.out,H1.out,K1.out]),hd_ (by rw [F2.out,H2.out,K2.out]),hd_ (by rw [F3.out,H3.out,K3.out]),hd_ (by rw [F4.out,H4.out,K4.out]),zqg ezz EH.out,zqg iz EI.out,zqg oz EO.out,bl_⟩
     case measure => simp [intOf];omega
    ·
     have K1:=hd_ (show fewH ch x1 hs[k] = x1 by simp [fewH,tx,ty])
     have K2:=hd_ (show outH ch x2 hs[k] = x2 + hs[k].AmtOut by simp [outH,tx])
     have K3:=hd_ (show slotFewH ch x3 hs[k] = x3 by simp [slotFewH,tx,ty])
     have K4:=hd_ (show slotH ch x4 hs[k] = x4 + 1 by simp [slotH,tx])
     clear tx
     go_wp2_with fail
     go_roundw
     case rel => exact ⟨k + 1,_,_,_,_,by omega,by go_num,by first | rfl | go_num,by first | rfl | go_num,by first | rfl | go_num,by first | rfl | go_num,hd_ (by rw [F1.out,H1.out,K1.out]),hd_ (by rw [F2.out,H2.out,K2.out]),hd_ (by rw [F3.out,H3.out,K3.out]),hd_ (by rw [F4.out,H4.out,K4.out]),zqg ezz EH.out,zqg iz EI.out,zqg oz EO.out,bl_⟩
     case measure => simp [intOf];omega
  ·
   obtain rfl : k = hs.length:=by omega
   have q1:=H1.out
   have q2:=H2.out
   have q3:=H3.out
   have q4:=H4.out
   rw [List.take_length] at q1 q2 q3 q4
   have HE:=hd_ (show roomF hs co ch amt ci.Score yes = allowF co.Size x1 x2 x3 x4 amt (standB ci.Score yes) by unfold roomF;rw [q1,q2,q3,q4])
   clear q1 q2 q3 q4 H1 H2 H3 H4
   go_wp2_with fail
   go_quiet (first | (go_at_call 157;exact zqi (zph _ _ _)) | (go_at_call 156;exact zqi (s_Allow _ _ _ _ _ _ _ _ (by omega) (by omega))))
   go_wp2_with fail
   go_ret
   exact ⟨zxk HE.out.symm,bl_⟩
end Go.Proofs.YtdbmkfmenfcbiaaGreat
namespace Go.Proofs.YtdbmkfmenfcbiaaGreat
open Go.RowKit Go.Deep
theorem zgk (n : Int) (w : World) : Calls Tryz.prog 148 #[.int .i64 n] w fun e w' => e = .returned (.int .i64 (upF n))∧w = w':=by
  cases h : inB n (-100) 100
  · have HE:=hd_ (show upF n = 0 by unfold upF;rw [h];rfl)
    go_enter Tryz.func148,Tryz.ntmps148
    go_wp2_with (go_at_call 85;refine (zxl _ _).mono ?_;rintro e w' ⟨rfl,rfl⟩)
    go_ret
    exact ⟨zxk HE.out.symm,rfl⟩
  · have HE:=hd_ (show upF n = min (n + 10) 100 by unfold upF;rw [h];rfl)
    obtain ⟨h1,h2⟩:=zxx.1 h
    go_enter Tryz.func148,Tryz.ntmps148
    go_wp2_with (go_at_call 85;refine (zxl _ _).mono ?_;rintro e w' ⟨rfl,rfl⟩)
    go_ret
    exact ⟨zxk (by rw [HE.out]),rfl⟩
theorem ztu (n : Int) (w : World) : Calls Tryz.prog 149 #[.int .i64 n] w fun e w' => e = .returned (.int .i64 (downF n))∧w = w':=by
  cases h : inB n (-100) 100
  · have HE:=hd_ (show downF n = 0 by unfold downF;rw [h];rfl)
    go_enter Tryz.func149,Tryz.ntmps149
    go_wp2_with (go_at_call 85;refine (zxl _ _).mono ?_;rintro e w' ⟨rfl,rfl⟩)
    go_ret
    exact ⟨zxk HE.out.symm,rfl⟩
  · have HE:=hd_ (show downF n = max (n - 15) (-100) by unfold downF;rw [h];rfl)
    obtain ⟨h1,h2⟩:=zxx.1 h
    go_enter Tryz.func149,Tryz.ntmps149
    go_wp2_with (go_at_call 85;refine (zxl _ _).mono ?_;rintro e w' ⟨rfl,rfl⟩)
    go_ret
    exact ⟨zxk (by rw [HE.out]),rfl⟩
end Go.Proofs.YtdbmkfmenfcbiaaGreat
namespace Go.Proofs.YtdbmkfmenfcbiaaGreat
open Go.RowKit Go.Deep
theorem Ow.heapW {w : World} {B size n cap g : Nat} {e : TypeId} {rows : List (List Value)} (h : Ow w B e size (.slice (some ⟨g,0,none⟩) n cap) rows) : ∃ cur,w.heap[g]? = some (.cells cur e (0,0)):=by
 rcases h.2.2 with ⟨hv,_⟩ | ⟨g',cap',cur,hv,_,hh,_⟩
 ·
  cases hv
 ·
  injection hv with h1
  injection h1 with h1
  injection h1 with h1
  subst h1
  exact ⟨cur,hh⟩
theorem Ow.headW {w : World} {B n cap size : Nat} {e : TypeId} {A : Option Addr} {rows : List (List Value)} (h : Ow w B e size (.slice A n cap) rows) (h0 : 0 < rows.length) : ∃ g,A = some ⟨g,0,none⟩∧B ≤ g:=by
 rcases h.open_ with ⟨hr,hv⟩ | ⟨g,cap',hv,hB,_,_⟩
 ·
  rw [hr] at h0
  simp at h0
 ·
  injection hv with h1
  exact ⟨g,h1,hB⟩
def set7 (w : World) (g o : Nat) (u0 u1 u2 u3 u4 u5 u6 : Value) : World :=
 ((((((w.setCell ⟨g,o,none⟩ u0).setCell ⟨g,o + 1,none⟩ u1).setCell ⟨g,o + 2,none⟩ u2).setCell ⟨g,o + 3,none⟩ u3).setCell ⟨g,o + 4,none⟩ u4).setCell ⟨g,o + 5,none⟩ u5).setCell ⟨g,o + 6,none⟩ u6
theorem zkv (w : World) (g o : Nat) (u0 u1 u2 u3 u4 u5 u6 : Value) : w.grownBy (set7 w g o u0 u1 u2 u3 u4 u5 u6) (some g) :=
 zqh (zqh (zqh (zqh (zqh (zqh (zqh (World.grownBy.refl w (some g)) o u0) (o + 1) u1) (o + 2) u2) (o + 3) u3) (o + 4) u4) (o + 5) u5) (o + 6) u6
theorem Ow.set7 {w : World} {B n cap g i : Nat} {e : TypeId} {rows : List (List Value)} {r : List Value} (h : Ow w B e 7 (.slice (some ⟨g,0,none⟩) n cap) rows) (hi : rows[i]? = some r) (u0 u1 u2 u3 u4 u5 u6 : Value) :
  Ow (Go.Proofs.YtdbmkfmenfcbiaaGreat.set7 w g (i * 7) u0 u1 u2 u3 u4 u5 u6) B e 7 (.slice (some ⟨g,0,none⟩) n cap) (rows.set i [u0,u1,u2,u3,u4,u5,u6]):=by
 have hlt : i < rows.length:=(List.getElem?_eq_some_iff.1 hi).1
 have hl:=h.1 r (List.mem_of_getElem? hi)
 have at_ : ∀ (R : List (List Value)) (x : List Value),R.length = rows.length → (R.set i x)[i]? = some x:=fun R x hR => by
  rw [List.getElem?_set_self (by omega)]
 have s0:=h.stored hi (j:=0) (by decide) u0
 have s1:=s0.stored (at_ _ _ rfl) (j:=1) (by decide) u1
 rw [List.set_set] at s1
 have s2:=s1.stored (at_ _ _ rfl) (j:=2) (by decide) u2
 rw [List.set_set] at s2
 have s3:=s2.stored (at_ _ _ rfl) (j:=3) (by decide) u3
 rw [List.set_set] at s3
 have s4:=s3.stored (at_ _ _ rfl) (j:=4) (by decide) u4
 rw [List.set_set] at s4
 have s5:=s4.stored (at_ _ _ rfl) (j:=5) (by decide) u5
 rw [List.set_set] at s5
 have s6:=s5.stored (at_ _ _ rfl) (j:=6) (by decide) u6
 rw [List.set_set] at s6
 match r,hl with
 | [_,_,_,_,_,_,_],_ => exact s6
theorem zxv {cs : List Chan} {ch : Int} {i : Nat} (h : chanIx cs ch = (i : Int)) : i < cs.length:=by
 unfold chanIx at h
 split at h
 ·
  rename_i j hj
  have:=(List.findIdx?_eq_some_iff_getElem.1 hj).1
  omega
 ·
  omega
theorem zyy {α : Type} {l : List α} {i : Nat} (h : i < l.length) (f : α → α) : l.modify i f = l.set i (f l[i]):=by
 apply List.ext_getElem?
 intro j
 rw [List.getElem?_modify,List.getElem?_set]
 by_cases hj : i = j
 ·
  subst hj
  simp [h]
 ·
  simp [hj]
section
variable {T : TypeId} {w0 w : World} {B X : Nat} {b : Bk} {L : List Line} {code : Int} {A1 A2 A3 A4 : Option Addr} {p1 p2 p3 p4 : Nat}
theorem zkm (cs : List Chan) (i : Nat) (c : Chan) : (cs.set i c).map Chan.cells = (cs.map Chan.cells).set i c.cells:=by
 rw [List.map_set]
theorem Wk.putChan {g i : Nat} (h : Wk T w0 w B X b L code (some ⟨g,0,none⟩) A2 A3 A4 p1 p2 p3 p4) (hT1 : 103 ≠ T) (hi : i < b.cs.length) (c : Chan) :
  Wk T w0 (Go.Proofs.YtdbmkfmenfcbiaaGreat.set7 w g (i * 7) (.int .i64 c.Id) (.int .i64 c.Size) (.int .i64 c.Local) (.int .i64 c.Remote) (.int .i64 c.Base) (.int .i64 c.Ppm) (.int .i64 c.Score)) B X ⟨b.t,b.n,b.w,b.cs.set i c,b.hs,b.os⟩ L code (some ⟨g,0,none⟩) A2 A3 A4 p1 p2 p3 p4:=by
 have hg:=zkv w g (i * 7) (.int .i64 c.Id) (.int .i64 c.Size) (.int .i64 c.Local) (.int .i64 c.Remote) (.int .i64 c.Base) (.int .i64 c.Ppm) (.int .i64 c.Score)
 obtain ⟨cur,hh⟩:=h.o.c.heapW
 have hr : (b.cs.map Chan.cells)[i]? = some b.cs[i].cells:=by rw [List.getElem?_map,List.getElem?_eq_getElem hi];rfl
 have h7:=h.o.c.set7 hr (.int .i64 c.Id) (.int .i64 c.Size) (.int .i64 c.Local) (.int .i64 c.Remote) (.int .i64 c.Base) (.int .i64 c.Ppm) (.int .i64 c.Score)
 have hgX : some X ≠ some g:=fun e => by
  injection e with e
  subst e
  rw [h.x] at hh
  injection hh with hh
  injection hh with _ hh
  exact hT1 hh.symm
 have hBg : B ≤ g:=(h.o.c.block g (by simp [Value.ownBlock])).1
 refine ⟨?_,⟨?_,?_,?_⟩,?_,?_,?_,h.bx⟩
 ·
  rw [List.length_set]
  exact zqd hg hgX h.x
 ·
  rw [List.length_set,zkm]
  exact h7
 ·
  exact h.o.h.grown hg (Or.inr (h.o.h.ne_ hh (by decide)).symm)
 ·
  exact h.o.o.grown hg (Or.inr (h.o.o.ne_ hh (by decide)).symm)
 ·
  exact h.l.grown hg (Or.inr (h.l.ne_ hh (by decide)).symm)
 ·
  exact h.b.grown hg h.ble (fun k e => by injection e with e;omega)
 ·
  intro k cs t h1 h2
  have h3:=h.f k cs t h1 h2
  refine zqd hg ?_ h3
  intro e
  injection e with e
  subst e
  rw [hh] at h3
  injection h3 with h3
  injection h3 with _ h3
  exact h2 (by rw [← h3];simp [wkTs])
end
end Go.Proofs.YtdbmkfmenfcbiaaGreat
namespace Go.Proofs.YtdbmkfmenfcbiaaGreat
open Go.RowKit Go.Deep
def Stop (p : Prop) : Prop:=p
theorem Stop.go {p : Prop} (h : Stop p) : p:=h
theorem Stop.on {p : Prop} (h : p) : Stop p:=h
theorem zkx : (Tryz.prog.info? 103).map (fun i => (i.zero,i.size,i.bytes)) = some (some (.agg #[.int .i64 0,.int .i64 0,.int .i64 0,.int .i64 0,.int .i64 0,.int .i64 0,.int .i64 0]),7,56):=by kernel_rfl
theorem zjw : (Tryz.prog.info? 70).map (fun i => (i.zero,i.size,i.bytes)) = some (some (.agg #[.int .i64 0,.int .i64 0,.int .i64 0,.int .i64 0,.int .i64 0,.bool false,.int .i64 0]),7,56):=by kernel_rfl
theorem zkf : (Tryz.prog.info? 93).map (fun i => (i.zero,i.size,i.bytes)) = some (some (.agg #[.int .i64 0,.int .i64 0,.int .i64 0,.int .i64 0,.int .i64 0]),5,40):=by kernel_rfl
theorem zyl (l : List Chan) : ∀ u ∈ (l.map Chan.cells).flatten,u.oneCell' = true:=by
 intro u hu
 obtain ⟨r,hr,hu⟩:=List.mem_flatten.1 hu
 obtain ⟨x,_,rfl⟩:=List.mem_map.1 hr
 simp only [Chan.cells,List.mem_cons,List.not_mem_nil,or_false] at hu
 rcases hu with rfl | rfl | rfl | rfl | rfl | rfl | rfl <;> rfl
theorem zvh (l : List Htlc) : ∀ u ∈ (l.map Htlc.cells).flatten,u.oneCell' = true:=by
 intro u hu
 obtain ⟨r,hr,hu⟩:=List.mem_flatten.1 hu
 obtain ⟨x,_,rfl⟩:=List.mem_map.1 hr
 simp only [Htlc.cells,List.mem_cons,List.not_mem_nil,or_false] at hu
 rcases hu with rfl | rfl | rfl | rfl | rfl | rfl | rfl <;> rfl
theorem zwm (l : List Circle) : ∀ u ∈ (l.map Circle.cells).flatten,u.oneCell' = true:=by
 intro u hu
 obtain ⟨r,hr,hu⟩:=List.mem_flatten.1 hu
 obtain ⟨x,_,rfl⟩:=List.mem_map.1 hr
 simp only [Circle.cells,List.mem_cons,List.not_mem_nil,or_false] at hu
 rcases hu with rfl | rfl | rfl | rfl | rfl <;> rfl
def CopyP (w : World) (b : Bk) (e : Ending) (w' : World) : Prop :=
 ∃ (C1 C2 C3 : Option Addr) (q1 q2 q3 : Nat),e = .returned (.agg #[.int .i64 b.t,.int .i64 b.n,.int .i64 b.w,.slice C1 b.cs.length q1,.slice C2 b.hs.length q2,.slice C3 b.os.length q3])∧OwB w' w.heap.size b C1 C2 C3 q1 q2 q3∧Below w.heap.size w w'
set_option maxRecDepth 100000 in
set_option maxHeartbeats 4000000 in
theorem zth (b : Bk) (A1 A2 A3 : Option Addr) (p1 p2 p3 : Nat) (w : World) (l1 : b.cs.length ≤ 1048576) (l2 : b.hs.length ≤ 1048576) (l3 : b.os.length ≤ 1048576) (hr : RdBook w w.heap.size A1 b.cs A2 b.hs A3 b.os) :
  Calls Tryz.prog 63 #[.agg #[.int .i64 b.t,.int .i64 b.n,.int .i64 b.w,.slice A1 b.cs.length p1,.slice A2 b.hs.length p2,.slice A3 b.os.length p3]] w (CopyP w b):=by
 obtain ⟨i0,hi,hz0,hz1,hz2⟩:=info_parts zkx
 obtain ⟨j0,hj,hy0,hy1,hy2⟩:=info_parts zjw
 obtain ⟨k0,hk,hx0,hx1,hx2⟩:=info_parts zkf
 have HI0:=hd_ hi
 have HI1:=hd_ hz0
 have HI2:=hd_ hz1
 have HI3:=hd_ hz2
 have HJ0:=hd_ hj
 have HJ1:=hd_ hy0
 have HJ2:=hd_ hy1
 have HJ3:=hd_ hy2
 have HK0:=hd_ hk
 have HK1:=hd_ hx0
 have HK2:=hd_ hx1
 have HK3:=hd_ hx2
 have HR:=hd_ hr
 clear hi hz0 hz1 hz2 hj hy0 hy1 hy2 hk hx0 hx1 hx2 hr
 go_enter Tryz.func63,Tryz.ntmps63
 go_wp2_with (at_builtin;refine Stop.go ?_)
 refine Stop.on ?_
 refine zjp rfl _ _ _ rfl w.heap.size 103 i0 _ 7 56 Tryz.underlying35 HI0.out HI1.out HI2.out HI3.out rfl (by decide) _ _ [] 0 rfl (by rfl) (by first | exact Ow.empty_ rfl (by first | omega | (simp;done) | (simp;omega)) | exact Ow.empty_ (by simp) (by first | omega | (simp;done) | (simp;omega))) A1 p1 (b.cs.map Chan.cells) b.cs.length (by rw [List.length_map]) (by rfl) w.heap.size (HR.out.c.below (bl_)) (zyl b.cs) (by rw [List.length_map];simp only [List.length_nil];omega) (by decide) (by first | omega | (simp;done) | (simp;omega)) ?_
 intro C1 q1 w1 how1 hb1 hg1
 simp only [Nat.zero_add,List.nil_append] at how1 ⊢
 have kX : Hid (w1.heap[w.heap.size]? = some (.cells (bkC b A1 p1 A2 p2 A3 p3) 39 (0,0))):=hd_ (zqd hg1 (by first | (simp [Value.ownBlock];done) | (simp [Value.ownBlock];omega)) (zqg (by simp;omega) (zqg (by simp) (zqm rfl))))
 have kY : Hid (w1.heap[w.heap.size + 1]? = some (.cells #[.int .i64 0,.int .i64 0,.int .i64 0,.slice none 0 0,.slice none 0 0,.slice none 0 0] 39 (0,0))):=hd_ (zqd hg1 (by first | (simp [Value.ownBlock];done) | (simp [Value.ownBlock];omega)) (zqg (by simp) (zqm (by simp))))
 have kB : Hid (Below w.heap.size w w1):=hd_ (bl_)
 have kO1:=hd_ how1
 clear how1 hb1 hg1
 obtain ⟨_,x0,x1,x2,x3,x4,x5,xf,xz⟩:=own6 (Below.refl _ _) (gz_ kX.out).1 kX.out
 obtain ⟨_,y0,y1,y2,y3,y4,y5,yf,_⟩:=own6 (Below.refl _ _) (gz_ kY.out).1 kY.out
 go_wp2_with (at_builtin;refine Stop.go ?_)
 refine Stop.on ?_
 clear x0 x1 x2 x3 x4 x5 xf y0 y1 y2 y3 y4 y5 yf
 obtain ⟨v1,hv1⟩ : ∃ v,w1.setCell ⟨w.heap.size,3,none⟩ (.slice C1 b.cs.length q1) = v:=⟨_,rfl⟩
 have hX1 : Hid (v1.heap[w.heap.size]? = some (.cells (bkC b C1 q1 A2 p2 A3 p3) 39 (0,0))):=hd_ (by rw [← hv1];exact zqa kX.out)
 have hY1 : Hid (v1.heap[w.heap.size + 1]? = some (.cells #[.int .i64 0,.int .i64 0,.int .i64 0,.slice none 0 0,.slice none 0 0,.slice none 0 0] 39 (0,0))):=hd_ (by rw [← hv1];exact zjk (by simp) kY.out)
 have hB1 : Hid (Below w.heap.size w v1):=hd_ (by rw [← hv1];exact kB.out.setCell (Nat.le_refl _) _)
 have hO1:=hd_ (show Ow v1 w.heap.size 103 7 (.slice C1 b.cs.length q1) (b.cs.map Chan.cells) by rw [← hv1];exact kO1.out.aside kX.out (by decide) _)
 have hs1 : w1.heap.size = v1.heap.size:=by rw [← hv1];simp
 rw [hv1]
 try rw [hs1]
 clear hs1 hv1 kX kY kB xz kO1
 obtain ⟨_,x0,x1,x2,x3,x4,x5,xf,xz⟩:=own6 (Below.refl _ _) (gz_ hX1.out).1 hX1.out
 have yz:=(gz_ hY1.out).1
 refine zjp rfl _ _ _ rfl w.heap.size 70 j0 _ 7 56 Tryz.underlying36 HJ0.out HJ1.out HJ2.out HJ3.out rfl (by decide) _ _ [] 0 rfl (by rfl) (by first | exact Ow.empty_ rfl (by first | omega | (simp;done) | (simp;omega)) | exact Ow.empty_ (by simp) (by first | omega | (simp;done) | (simp;omega))) A2 p2 (b.hs.map Htlc.cells) b.hs.length (by rw [List.length_map]) (by rfl) w.heap.size (HR.out.h.below (bl_)) (zvh b.hs) (by rw [List.length_map];simp only [List.length_nil];omega) (by decide) (by first | omega | (simp;done) | (simp;omega)) ?_
 intro C2 q2 w2 how2 hb2 hg2
 simp only [Nat.zero_add,List.nil_append] at how2 ⊢
 have kX : Hid (w2.heap[w.heap.size]? = some (.cells (bkC b C1 q1 A2 p2 A3 p3) 39 (0,0))):=hd_ (zqd hg2 (by first | (simp [Value.ownBlock];done) | (simp [Value.ownBlock];omega)) (zqg xz hX1.out))
 have kY : Hid (w2.heap[w.heap.size + 1]? = some (.cells #[.int .i64 0,.int .i64 0,.int .i64 0,.slice none 0 0,.slice none 0 0,.slice none 0 0] 39 (0,0))):=hd_ (zqd hg2 (by first | (simp [Value.ownBlock];done) | (simp [Value.ownBlock];omega)) (zqg yz hY1.out))
 have kB : Hid (Below w.heap.size w w2):=hd_ (bl_)
 have kO1:=hd_ ((hO1.out.alloc _).grown hg2 (Or.inr (fun e => by have h9:=(hO1.out.block v1.heap.size (by first | exact e | exact e.symm)).2;omega)))
 clear xf xz yz x0 x1 x2 x3 x4 x5 hO1 hX1 hY1 hB1
 have kO2:=hd_ how2
 clear how2 hb2 hg2
 obtain ⟨_,x0,x1,x2,x3,x4,x5,xf,xz⟩:=own6 (Below.refl _ _) (gz_ kX.out).1 kX.out
 obtain ⟨_,y0,y1,y2,y3,y4,y5,yf,_⟩:=own6 (Below.refl _ _) (gz_ kY.out).1 kY.out
 go_wp2_with (at_builtin;refine Stop.go ?_)
 refine Stop.on ?_
 clear x0 x1 x2 x3 x4 x5 xf y0 y1 y2 y3 y4 y5 yf
 obtain ⟨v2,hv2⟩ : ∃ v,w2.setCell ⟨w.heap.size,4,none⟩ (.slice C2 b.hs.length q2) = v:=⟨_,rfl⟩
 have hX2 : Hid (v2.heap[w.heap.size]? = some (.cells (bkC b C1 q1 C2 q2 A3 p3) 39 (0,0))):=hd_ (by rw [← hv2];exact zqa kX.out)
 have hY2 : Hid (v2.heap[w.heap.size + 1]? = some (.cells #[.int .i64 0,.int .i64 0,.int .i64 0,.slice none 0 0,.slice none 0 0,.slice none 0 0] 39 (0,0))):=hd_ (by rw [← hv2];exact zjk (by simp) kY.out)
 have hB2 : Hid (Below w.heap.size w v2):=hd_ (by rw [← hv2];exact kB.out.setCell (Nat.le_refl _) _)
 have hO1:=hd_ (show Ow v2 w.heap.size 103 7 (.slice C1 b.cs.length q1) (b.cs.map Chan.cells) by rw [← hv2];exact kO1.out.aside kX.out (by decide) _)
 have hO2:=hd_ (show Ow v2 w.heap.size 70 7 (.slice C2 b.hs.length q2) (b.hs.map Htlc.cells) by rw [← hv2];exact kO2.out.aside kX.out (by decide) _)
 have hs2 : w2.heap.size = v2.heap.size:=by rw [← hv2];simp
 rw [hv2]
 try rw [hs2]
 clear hs2 hv2 kX kY kB xz kO1 kO2
 obtain ⟨_,x0,x1,x2,x3,x4,x5,xf,xz⟩:=own6 (Below.refl _ _) (gz_ hX2.out).1 hX2.out
 have yz:=(gz_ hY2.out).1
 refine zjp rfl _ _ _ rfl w.heap.size 93 k0 _ 5 40 Tryz.underlying37 HK0.out HK1.out HK2.out HK3.out rfl (by decide) _ _ [] 0 rfl (by rfl) (by first | exact Ow.empty_ rfl (by first | omega | (simp;done) | (simp;omega)) | exact Ow.empty_ (by simp) (by first | omega | (simp;done) | (simp;omega))) A3 p3 (b.os.map Circle.cells) b.os.length (by rw [List.length_map]) (by rfl) w.heap.size (HR.out.o.below (bl_)) (zwm b.os) (by rw [List.length_map];simp only [List.length_nil];omega) (by decide) (by first | omega | (simp;done) | (simp;omega)) ?_
 intro C3 q3 w3 how3 hb3 hg3
 simp only [Nat.zero_add,List.nil_append] at how3 ⊢
 have kX : Hid (w3.heap[w.heap.size]? = some (.cells (bkC b C1 q1 C2 q2 A3 p3) 39 (0,0))):=hd_ (zqd hg3 (by first | (simp [Value.ownBlock];done) | (simp [Value.ownBlock];omega)) (zqg xz hX2.out))
 have kY : Hid (w3.heap[w.heap.size + 1]? = some (.cells #[.int .i64 0,.int .i64 0,.int .i64 0,.slice none 0 0,.slice none 0 0,.slice none 0 0] 39 (0,0))):=hd_ (zqd hg3 (by first | (simp [Value.ownBlock];done) | (simp [Value.ownBlock];omega)) (zqg yz hY2.out))
 have kB : Hid (Below w.heap.size w w3):=hd_ (bl_)
 have kO1:=hd_ ((hO1.out.alloc _).grown hg3 (Or.inr (fun e => by have h9:=(hO1.out.block v2.heap.size (by first | exact e | exact e.symm)).2;omega)))
 have kO2:=hd_ ((hO2.out.alloc _).grown hg3 (Or.inr (fun e => by have h9:=(hO2.out.block v2.heap.size (by first | exact e | exact e.symm)).2;omega)))
 clear xf xz yz x0 x1 x2 x3 x4 x5 hO1 hO2 hX2 hY2 hB2
 have kO3:=hd_ how3
 clear how3 hb3 hg3
 obtain ⟨_,x0,x1,x2,x3,x4,x5,xf,xz⟩:=own6 (Below.refl _ _) (gz_ kX.out).1 kX.out
 obtain ⟨_,y0,y1,y2,y3,y4,y5,yf,_⟩:=own6 (Below.refl _ _) (gz_ kY.out).1 kY.out
 go_wp2_with (at_builtin;refine Stop.go ?_)
 clear x0 x1 x2 x3 x4 x5 xf y0 y1 y2 y3 y4 y5 yf
 obtain ⟨v3,hv3⟩ : ∃ v,w3.setCell ⟨w.heap.size,5,none⟩ (.slice C3 b.os.length q3) = v:=⟨_,rfl⟩
 have hX3 : Hid (v3.heap[w.heap.size]? = some (.cells (bkC b C1 q1 C2 q2 C3 q3) 39 (0,0))):=hd_ (by rw [← hv3];exact zqa kX.out)
 have hY3 : Hid (v3.heap[w.heap.size + 1]? = some (.cells #[.int .i64 0,.int .i64 0,.int .i64 0,.slice none 0 0,.slice none 0 0,.slice none 0 0] 39 (0,0))):=hd_ (by rw [← hv3];exact zjk (by simp) kY.out)
 have hB3 : Hid (Below w.heap.size w v3):=hd_ (by rw [← hv3];exact kB.out.setCell (Nat.le_refl _) _)
 have hO1:=hd_ (show Ow v3 w.heap.size 103 7 (.slice C1 b.cs.length q1) (b.cs.map Chan.cells) by rw [← hv3];exact kO1.out.aside kX.out (by decide) _)
 have hO2:=hd_ (show Ow v3 w.heap.size 70 7 (.slice C2 b.hs.length q2) (b.hs.map Htlc.cells) by rw [← hv3];exact kO2.out.aside kX.out (by decide) _)
 have hO3:=hd_ (show Ow v3 w.heap.size 93 5 (.slice C3 b.os.length q3) (b.os.map Circle.cells) by rw [← hv3];exact kO3.out.aside kX.out (by decide) _)
 have hs3 : w3.heap.size = v3.heap.size:=by rw [← hv3];simp
 rw [hv3]
 try rw [hs3]
 clear hs3 hv3 kX kY kB xz kO1 kO2 kO3
 obtain ⟨_,x0,x1,x2,x3,x4,x5,xf,xz⟩:=own6 (Below.refl _ _) (gz_ hX3.out).1 hX3.out
 have yz:=(gz_ hY3.out).1
 obtain ⟨vr,hvr⟩ : ∃ v,(((((v3.setCell ⟨w.heap.size + 1,0,none⟩ (.int .i64 b.t)).setCell ⟨w.heap.size + 1,1,none⟩ (.int .i64 b.n)).setCell ⟨w.heap.size + 1,2,none⟩ (.int .i64 b.w)).setCell ⟨w.heap.size + 1,3,none⟩ (.slice C1 b.cs.length q1)).setCell ⟨w.heap.size + 1,4,none⟩ (.slice C2 b.hs.length q2)).setCell ⟨w.heap.size + 1,5,none⟩ (.slice C3 b.os.length q3) = v:=⟨_,rfl⟩
 have hR : Hid (vr.heap[w.heap.size + 1]? = some (.cells (bkC b C1 q1 C2 q2 C3 q3) 39 (0,0))):=hd_ (by rw [← hvr];exact zqa (zqa (zqa (zqa (zqa (zqa hY3.out))))))
 have hG : Hid (v3.grownBy vr (some (w.heap.size + 1))):=hd_ (by rw [← hvr];exact zqh (zqh (zqh (zqh (zqh (zqh (World.grownBy.refl v3 (some (w.heap.size + 1))) _ _) _ _) _ _) _ _) _ _) _ _)
 rw [hvr]
 clear hvr x0 x1 x2 x3 x4 x5 xf xz yz
 obtain ⟨_,y0,y1,y2,y3,y4,y5,yf,_⟩:=own6 (Below.refl _ _) (gz_ hR.out).1 hR.out
 refine bodyPost_ret (v:=.agg #[.int .i64 b.t,.int .i64 b.n,.int .i64 b.w,.slice C1 b.cs.length q1,.slice C2 b.hs.length q2,.slice C3 b.os.length q3]) (by simp [results,Tryz.results63,go_sem, *]) rfl ?_
 refine ⟨_,_,_,_,_,_,rfl,⟨hO1.out.grown hG.out (Or.inr (hO1.out.ne_ hY3.out (by decide)).symm),hO2.out.grown hG.out (Or.inr (hO2.out.ne_ hY3.out (by decide)).symm),hO3.out.grown hG.out (Or.inr (hO3.out.ne_ hY3.out (by decide)).symm)⟩,hB3.out.grown hG.out (by have:=hB3.out.size;omega) (fun k e => by injection e with e;omega)⟩
end Go.Proofs.YtdbmkfmenfcbiaaGreat
namespace Go.Proofs.YtdbmkfmenfcbiaaGreat
open Go.RowKit Go.Deep
def OnlyX (X : Nat) (w w' : World) : Prop:=∀ k x,k ≠ X → w.heap[k]? = some x → w'.heap[k]? = some x
theorem OnlyX.refl (X : Nat) (w : World) : OnlyX X w w:=fun _ _ _ h => h
theorem OnlyX.set (X : Nat) (w : World) (i : Nat) (u : Value) : OnlyX X w (w.setCell ⟨X,i,none⟩ u):=fun _ _ hk h => zqb hk h
theorem OnlyX.of_below {X : Nat} {w w' : World} (hb : Below w.heap.size w w') : OnlyX X w w':=fun k _ _ h => (hb.block k (gz_ h).1).trans h
theorem OnlyX.trans {X : Nat} {w w' w'' : World} (h : OnlyX X w w') (h' : OnlyX X w' w'') : OnlyX X w w'':=fun k x hk hx => h' k x hk (h k x hk hx)
theorem zqv (w0 w : World) (B X : Nat) (b : Bk) (L : List Line) (A1 A2 A3 A4 : Option Addr) (p1 p2 p3 p4 : Nat) (c : Int) (hc : (c != 0) = true) (h : Wk 108 w0 w B X b L 0 A1 A2 A3 A4 p1 p2 p3 p4) :
  Calls Tryz.prog 64 #[.pointer (some ⟨X,0,none⟩),.bool true,.int .i64 c] w fun e w' => e = .returned (.bool true)∧Wk 108 w w' B X b L c A1 A2 A3 A4 p1 p2 p3 p4∧OnlyX X w w':=by
 have H:=hd_ h.here
 obtain ⟨a0,a1,a2,a3,a4,a5,a6,a7,af,az⟩:=h.open_
 clear h
 go_enter Tryz.func64,Tryz.ntmps64
 go_wp2_with fail
 go_ret
 exact ⟨rfl,H.out.setCode (by decide) (by decide) (by decide) (by decide) c,OnlyX.set _ _ _ _⟩
theorem zqn (w0 w : World) (B X : Nat) (b : Bk) (L : List Line) (A1 A2 A3 A4 : Option Addr) (p1 p2 p3 p4 : Nat) (c : Int) (h : Wk 108 w0 w B X b L 0 A1 A2 A3 A4 p1 p2 p3 p4) :
  Calls Tryz.prog 64 #[.pointer (some ⟨X,0,none⟩),.bool false,.int .i64 c] w fun e w' => e = .returned (.bool false)∧w = w':=by
 obtain ⟨a0,a1,a2,a3,a4,a5,a6,a7,af,az⟩:=h.open_
 clear h
 go_enter Tryz.func64,Tryz.ntmps64
 go_wp2_with fail
 go_ret
 exact ⟨rfl,rfl⟩
def Done (T : TypeId) (w : World) (B X : Nat) (b : Bk) (L : List Line) (code : Int) (e : Ending) (w' : World) : Prop :=
 ∃ (A1 A2 A3 A4 : Option Addr) (p1 p2 p3 p4 : Nat),e = .returned (.tuple #[])∧Wk T w w' B X b L code A1 A2 A3 A4 p1 p2 p3 p4
theorem zxm (w0 w : World) (B X : Nat) (b : Bk) (L : List Line) (code : Int) (A1 A2 A3 A4 : Option Addr) (p1 p2 p3 p4 : Nat) (k c a : Int) (hl : L.length ≤ 1000) (h : Wk 108 w0 w B X b L code A1 A2 A3 A4 p1 p2 p3 p4) :
  Calls Tryz.prog 66 #[.pointer (some ⟨X,0,none⟩),.int .i64 k,.int .i64 c,.int .i64 a] w (fun e w' => Done 108 w B X b (lineTo L k c a) code e w'∧OnlyX X w w'):=by
 have H:=hd_ h.here
 obtain ⟨a0,a1,a2,a3,a4,a5,a6,a7,af,az⟩:=h.open_
 clear h
 by_cases ha : a = 0
 ·
  have HE:=hd_ (show lineTo L k c a = L by unfold lineTo;rw [if_pos ha])
  have ta : (a != 0) = false:=by rw [ha];rfl
  clear ha
  go_enter Tryz.func66,Tryz.ntmps66
  go_wp2_with fail
  go_end0
  rw [HE.out]
  exact ⟨⟨_,_,_,_,_,_,_,_,rfl,H.out⟩,OnlyX.refl _ _⟩
 ·
  have HE:=hd_ (show lineTo L k c a = addF ⟨k,c,a⟩ L by unfold lineTo;rw [if_neg ha])
  have ta : (a != 0) = true:=by rw [bne_iff_ne];exact ha
  clear ha
  go_enter Tryz.func66,Tryz.ntmps66
  go_wp2_with fail
  refine (s_l02Add L _ _ k c a _ (by omega) H.out.l.rd).mono ?_
  rintro e w1 ⟨A',cap',rfl,how,hb1⟩
  have H1:=hd_ (H.out.below hb1)
  have HL:=hd_ (how.more H.out.ble)
  have HO:=hd_ (OnlyX.of_below (X:=X) hb1)
  clear hb1 how a0 a1 a2 a3 a4 a5 a6 a7 af az
  obtain ⟨a0,a1,a2,a3,a4,a5,a6,a7,af,az⟩:=H1.out.open_
  go_wp2_with fail
  go_end0
  rw [HE.out]
  exact ⟨⟨_,_,_,_,_,_,_,_,rfl,H1.out.setL (by decide) (by decide) (by decide) (by decide) HL.out⟩,HO.out.trans (OnlyX.set _ _ _ _)⟩
set_option maxRecDepth 100000 in
set_option maxHeartbeats 2000000 in
theorem zje (w0 w : World) (B X : Nat) (b : Bk) (L : List Line) (code : Int) (A1 A2 A3 A4 : Option Addr) (p1 p2 p3 p4 : Nat) (ch dl dr : Int) (hcl : b.cs.length ≤ 1048576) (hix : 0 ≤ chanIx b.cs ch) (hb : (-1152921504606846976 ≤ (chanOf b.cs ch).Local∧(chanOf b.cs ch).Local ≤ 1152921504606846976)∧(-1152921504606846976 ≤ (chanOf b.cs ch).Remote∧(chanOf b.cs ch).Remote ≤ 1152921504606846976)) (hdl : -1152921504606846976 ≤ dl∧dl ≤ 1152921504606846976) (hdr : -1152921504606846976 ≤ dr∧dr ≤ 1152921504606846976) (h : Wk 108 w0 w B X b L code A1 A2 A3 A4 p1 p2 p3 p4) :
  Calls Tryz.prog 113 #[.pointer (some ⟨X,0,none⟩),.int .i64 ch,.int .i64 dl,.int .i64 dr] w (fun e w' => e = .returned (.tuple #[])∧Wk 108 w w' B X ⟨b.t,b.n,b.w,moveC b.cs ch dl dr,b.hs,b.os⟩ L code A1 A2 A3 A4 p1 p2 p3 p4∧∀ g,A1 = some ⟨g,0,none⟩ → OnlyX g w w'):=by
 obtain ⟨i,hi⟩:=Int.eq_ofNat_of_zero_le hix
 have hlt : i < b.cs.length:=zxv hi
 have hof : chanOf b.cs ch = b.cs[i]:=by
  unfold chanOf
  rw [hi,Int.toNat_natCast,List.getD_eq_getElem?_getD,List.getElem?_eq_getElem hlt]
  rfl
 rw [hof] at hb
 have hm : moveC b.cs ch dl dr = b.cs.set i (moveF dl dr b.cs[i]):=by
  unfold moveC setCh
  rw [hi,Int.toNat_natCast,zyy hlt]
 have HIX:=hd_ hi
 have hr : (b.cs.map Chan.cells)[i]? = some b.cs[i].cells:=by rw [List.getElem?_map,List.getElem?_eq_getElem hlt];rfl
 obtain ⟨c,hc⟩ : ∃ c,b.cs[i] = c:=⟨_,rfl⟩
 rw [hc] at hb hm hr
 obtain ⟨k0,k1,k2,k3,k4,k5,k6⟩:=c
 have HM:=hd_ (show moveC b.cs ch dl dr = b.cs.set i ⟨k0,k1,k2 + dl,k3 + dr,k4,k5,k6⟩ from hm)
 obtain ⟨g,rfl,hBg⟩:=h.o.c.headW (by rw [List.length_map];omega)
 have H:=hd_ h.here
 have HRow:=hd_ hr
 obtain ⟨⟨b1,b2⟩,b3,b4⟩:=hb
 obtain ⟨b5,b6⟩:=hdl
 obtain ⟨b7,b8⟩:=hdr
 simp only at b1 b2 b3 b4
 obtain ⟨a0,a1,a2,a3,a4,a5,a6,a7,af,az⟩:=h.open_
 clear h hi hix hof hc hm hr
 have i0 : (0 : Int) ≤ (i : Int):=by omega
 have i1 : (i : Int) < (b.cs.length : Int):=by omega
 go_enter Tryz.func113,Tryz.ntmps113
 go_wp2_with fail
 refine (zjf b.t b.n b.w b.cs b.hs b.os _ _ _ _ _ _ ch _ hcl H.out.o.rd).mono ?_
 rintro e w1 ⟨rfl,hb1⟩
 rw [HIX.out]
 have H1:=hd_ (H.out.below hb1)
 have HG1:=hd_ (OnlyX.of_below (X:=g) hb1)
 clear hb1 a0 a1 a2 a3 a4 a5 a6 a7 af az
 obtain ⟨a0,a1,a2,a3,a4,a5,a6,a7,af,az⟩:=H1.out.open_
 have c0:=H1.out.o.c.cellAt HRow.out (j:=0) (by decide)
 have c1:=H1.out.o.c.cellAt HRow.out (j:=1) (by decide)
 have c2:=H1.out.o.c.cellAt HRow.out (j:=2) (by decide)
 have c3:=H1.out.o.c.cellAt HRow.out (j:=3) (by decide)
 have c4:=H1.out.o.c.cellAt HRow.out (j:=4) (by decide)
 have c5:=H1.out.o.c.cellAt HRow.out (j:=5) (by decide)
 have c6:=H1.out.o.c.cellAt HRow.out (j:=6) (by decide)
 simp only [Chan.cells,List.getElem?_cons_zero,List.getElem?_cons_succ,Nat.add_zero] at c0 c1 c2 c3 c4 c5 c6
 go_wp2_with fail
 obtain ⟨Y,hY⟩ : ∃ Y,Y = w1.heap.size:=⟨_,rfl⟩
 obtain ⟨wy,hwy⟩ : ∃ v,w1.alloc (.cells #[.int .i64 k0,.int .i64 k1,.int .i64 (k2 + dl),.int .i64 (k3 + dr),.int .i64 k4,.int .i64 k5,.int .i64 k6] 103) = v:=⟨_,rfl⟩
 have Hy : Hid (Wk 108 w wy B X b L code (some ⟨g,0,none⟩) A2 A3 A4 p1 p2 p3 p4):=hd_ (by rw [← hwy];exact H1.out.alloc _)
 have HY : Hid (Hx wy Y #[.int .i64 k0,.int .i64 k1,.int .i64 (k2 + dl),.int .i64 (k3 + dr),.int .i64 k4,.int .i64 k5,.int .i64 k6] 103):=hd_ (by rw [← hwy,hY];exact zqm rfl)
 have HG2 : Hid (OnlyX g w wy):=hd_ (by rw [← hwy];exact HG1.out.trans (OnlyX.of_below ((Below.refl _ _).alloc (Nat.le_refl _) _)))
 rw [hwy,← hY]
 clear HG1 hwy hY a0 a1 a2 a3 a4 a5 a6 a7 af az c0 c1 c2 c3 c4 c5 c6 H1
 refine wp_region_noPanic ?_
 refine zkq (S:=(fun w' => kqso w' X 3 (some ⟨g,0,none⟩) b.cs.length p1 (kqiiiiiii_ w' Y k0 k1 (k2 + dl) (k3 + dr) k4 k5 k6))) rfl (by kernel_rfl) (by kernel_rfl) (by kernel_rfl) (by kernel_rfl) ⟨Hy.out.open_.2.2.2.1,zqf HY.out 0,zqf HY.out 1,zqf HY.out 2,zqf HY.out 3,zqf HY.out 4,zqf HY.out 5,zqf HY.out 6⟩ (fun hHeld => ?_)
 obtain ⟨wd,hwd⟩ : ∃ wd,wy.drew = wd:=⟨_,rfl⟩
 have Hd : Hid (Wk 108 w wd B X b L code (some ⟨g,0,none⟩) A2 A3 A4 p1 p2 p3 p4):=hd_ (by rw [← hwd];exact Hy.out.drew)
 have HG3 : Hid (OnlyX g w wd):=hd_ (by rw [← hwd];exact HG2.out)
 rw [hwd] at hHeld ⊢
 clear hwd Hy HY HG2
 have c0:=Hd.out.o.c.cellAt HRow.out (j:=0) (by decide)
 have c1:=Hd.out.o.c.cellAt HRow.out (j:=1) (by decide)
 have c2:=Hd.out.o.c.cellAt HRow.out (j:=2) (by decide)
 have c3:=Hd.out.o.c.cellAt HRow.out (j:=3) (by decide)
 have c4:=Hd.out.o.c.cellAt HRow.out (j:=4) (by decide)
 have c5:=Hd.out.o.c.cellAt HRow.out (j:=5) (by decide)
 have c6:=Hd.out.o.c.cellAt HRow.out (j:=6) (by decide)
 simp only [Chan.cells,List.getElem?_cons_zero,List.getElem?_cons_succ,Nat.add_zero] at c0 c1 c2 c3 c4 c5 c6
 have cf:=fun j => Hd.out.o.c.frozenAt j
 simp only [List.dropLast]
 refine wpAnyH_take (i:=0) (v:=?v1) rfl (by kernel_rfl) (by kernel_rfl) (by kernel_rfl) (fun _ _ _ h => h) (Or.inl ⟨by rfl,?hy1⟩) (by assumption) ?rest1
 case hy1 => (intro w hSw;(try dsimp only at hSw);go_simp;(try with_reducible rfl))
 ((try simp only [Act.put]);(try simp only [List.setIfInBounds_toArray]);(repeat (first | simp only [List.set_cons_succ] | simp only [List.set_cons_zero])))
 refine wpAnyH_take (i:=1) (v:=?v2) rfl (by kernel_rfl) (by kernel_rfl) (by kernel_rfl) (fun _ _ _ h => h) (Or.inl ⟨by rfl,?hy2⟩) (by assumption) ?rest2
 case hy2 => (intro w hSw;(try dsimp only at hSw);go_simp;(try with_reducible rfl))
 ((try simp only [Act.put]);(try simp only [List.setIfInBounds_toArray]);(repeat (first | simp only [List.set_cons_succ] | simp only [List.set_cons_zero])))
 refine wpAnyH_take (i:=2) (v:=?v3) rfl (by kernel_rfl) (by kernel_rfl) (by kernel_rfl) (fun _ _ _ h => h) (Or.inl ⟨by rfl,?hy3⟩) (by assumption) ?rest3
 case hy3 => (intro w hSw;(try dsimp only at hSw);go_simp;(try with_reducible rfl))
 ((try simp only [Act.put]);(try simp only [List.setIfInBounds_toArray]);(repeat (first | simp only [List.set_cons_succ] | simp only [List.set_cons_zero])))
 refine wpAnyH_take (i:=3) (v:=?v4) rfl (by kernel_rfl) (by kernel_rfl) (by kernel_rfl) (fun _ _ _ h => h) (Or.inl ⟨by rfl,?hy4⟩) (by assumption) ?rest4
 case hy4 => (intro w hSw;(try dsimp only at hSw);go_simp;(try with_reducible rfl))
 ((try simp only [Act.put]);(try simp only [List.setIfInBounds_toArray]);(repeat (first | simp only [List.set_cons_succ] | simp only [List.set_cons_zero])))
 refine wpAnyH_take (i:=4) (v:=?v5) rfl (by kernel_rfl) (by kernel_rfl) (by kernel_rfl) (fun _ _ _ h => h) (Or.inl ⟨by rfl,?hy5⟩) (by assumption) ?rest5
 case hy5 => (intro w hSw;(try dsimp only at hSw);go_simp;(try with_reducible rfl))
 ((try simp only [Act.put]);(try simp only [List.setIfInBounds_toArray]);(repeat (first | simp only [List.set_cons_succ] | simp only [List.set_cons_zero])))
 refine wpAnyH_take (i:=5) (v:=?v6) rfl (by kernel_rfl) (by kernel_rfl) (by kernel_rfl) (fun _ _ _ h => h) (Or.inl ⟨by rfl,?hy6⟩) (by assumption) ?rest6
 case hy6 => (intro w hSw;(try dsimp only at hSw);go_simp;(try with_reducible rfl))
 ((try simp only [Act.put]);(try simp only [List.setIfInBounds_toArray]);(repeat (first | simp only [List.set_cons_succ] | simp only [List.set_cons_zero])))
 refine wpAnyH_take (i:=6) (v:=?v7) rfl (by kernel_rfl) (by kernel_rfl) (by kernel_rfl) (fun _ _ _ h => h) (Or.inl ⟨by rfl,?hy7⟩) (by assumption) ?rest7
 case hy7 => (intro w hSw;(try dsimp only at hSw);go_simp;(try with_reducible rfl))
 ((try simp only [Act.put]);(try simp only [List.setIfInBounds_toArray]);(repeat (first | simp only [List.set_cons_succ] | simp only [List.set_cons_zero])))
 refine wpAnyH_take (i:=7) (v:=?v8) rfl (by kernel_rfl) (by kernel_rfl) (by kernel_rfl) (fun _ _ _ h => h) (Or.inl ⟨by rfl,?hy8⟩) (by assumption) ?rest8
 case hy8 => (intro w hSw;(try dsimp only at hSw);go_simp;(try with_reducible rfl))
 ((try simp only [Act.put]);(try simp only [List.setIfInBounds_toArray]);(repeat (first | simp only [List.set_cons_succ] | simp only [List.set_cons_zero])))
 refine wpAnyH_done (by kernel_rfl) ?_ _
 intro KK hKK
 go_simp
 refine hKK _ _ (NoPanic.normal ?_)
 go_wp2_with fail
 go_end0
 rw [HM.out]
 refine ⟨rfl,H.out.trans (Hd.out.putChan (by decide) hlt ⟨k0,k1,k2 + dl,k3 + dr,k4,k5,k6⟩),fun g' hg' => ?_⟩
 injection hg' with hg'
 injection hg' with hg'
 subst hg'
 exact ((((((HG3.out.trans (OnlyX.set _ _ _ _)).trans (OnlyX.set _ _ _ _)).trans (OnlyX.set _ _ _ _)).trans (OnlyX.set _ _ _ _)).trans (OnlyX.set _ _ _ _)).trans (OnlyX.set _ _ _ _)).trans (OnlyX.set _ _ _ _)
end Go.Proofs.YtdbmkfmenfcbiaaGreat
namespace Go.Proofs.YtdbmkfmenfcbiaaGreat
open Go.RowKit Go.Deep
def Acts (T : TypeId) (w : World) (B X : Nat) (o : Out) (e : Ending) (w' : World) : Prop :=
 (o.code = 0∧∃ b',o.b = { b' with n:=if o.l = [] then b'.n else b'.n + 1 }∧Done T w B X b' o.l 0 e w') ∨ (o.code ≠ 0∧∃ b' L',Done T w B X b' L' o.code e w')
theorem Acts.ok {T : TypeId} {w w' : World} {B X : Nat} {e : Ending} {b' : Bk} {l : List Line} (h : Done T w B X b' l 0 e w') : Acts T w B X (done b' l) e w':=.inl ⟨rfl,b',rfl,h⟩
theorem Acts.no {T : TypeId} {w w' : World} {B X : Nat} {e : Ending} {b' : Bk} {L' : List Line} {c : Int} (hc : c ≠ 0) (h : Done T w B X b' L' c e w') : Acts T w B X (bad c) e w':=.inr ⟨hc,b',L',h⟩
theorem Done.trans {T : TypeId} {w0 w w' : World} {B X : Nat} {b b' : Bk} {L L' : List Line} {code code' : Int} {e : Ending} {A1 A2 A3 A4 : Option Addr} {p1 p2 p3 p4 : Nat} (h0 : Wk T w0 w B X b L code A1 A2 A3 A4 p1 p2 p3 p4) (h : Done T w B X b' L' code' e w') : Done T w0 B X b' L' code' e w':=by
 obtain ⟨C1,C2,C3,C4,q1,q2,q3,q4,he,h⟩:=h
 exact ⟨C1,C2,C3,C4,q1,q2,q3,q4,he,h0.trans h⟩
theorem zxe (l : List Line) (k c a : Int) : (lineTo l k c a).length ≤ l.length + 1:=by
 unfold lineTo
 split
 ·
  omega
 ·
  exact zmf _ _
theorem zjt {α : Type} {l : List α} {p : α → Bool} {k : Nat} (hk : k < l.length) : (l.take (k + 1)).filter p = (l.take k).filter p ++ (if p l[k] = true then [l[k]] else []):=by
 rw [List.take_succ_eq_append_getElem hk,List.filter_append]
 congr 1
 rw [List.filter_cons]
 split <;> rfl
/-! ### a new channel -/
def stepI (one : Chan) (r : Bool × List Chan) (c : Chan) : Bool × List Chan:=if (!r.1 && decide (c.Id > one.Id)) = true then (true,r.2 ++ [one] ++ [c]) else (r.1,r.2 ++ [c])
def finI (one : Chan) (r : Bool × List Chan) : List Chan:=if r.1 = true then r.2 else r.2 ++ [one]
theorem zhu (one : Chan) : ∀ (cs o : List Chan),cs.foldl (stepI one) (true,o) = (true,o ++ cs)
 | [],o => by simp
 | c :: cs,o => by
  rw [List.foldl_cons,show stepI one (true,o) c = (true,o ++ [c]) from rfl,zhu one cs]
  simp
theorem zyv (one : Chan) : ∀ (cs o : List Chan),(∀ c ∈ cs,c.Id ≠ one.Id) → finI one (cs.foldl (stepI one) (false,o)) = o ++ insC one cs
 | [],o,_ => by simp [finI,insC]
 | c :: cs,o,h => by
  rw [List.foldl_cons]
  have hc:=h c (by simp)
  by_cases h1 : one.Id < c.Id
  ·
   rw [show stepI one (false,o) c = (true,o ++ [one] ++ [c]) by simp [stepI,h1],zhu]
   have h2 : ¬ c.Id < one.Id:=by omega
   simp [finI,insC,h2]
  ·
   rw [show stepI one (false,o) c = (false,o ++ [c]) by simp [stepI,h1],zyv one cs _ (fun x hx => h x (by simp [hx]))]
   have h2 : c.Id < one.Id:=by omega
   simp [insC,h2]
theorem zmt {cs : List Chan} {ch : Int} (h : chanIx cs ch < 0) : ∀ c ∈ cs,c.Id ≠ ch:=by
 intro c hc he
 unfold chanIx at h
 split at h
 ·
  omega
 ·
  rename_i hn
  rw [List.findIdx?_eq_none_iff] at hn
  have:=hn c hc
  simp [notId,he] at this
theorem ztm (one : Chan) : ∀ (cs : List Chan) (r : Bool × List Chan),(cs.foldl (stepI one) r).2.length ≤ r.2.length + 2 * cs.length
 | [],r => by simp
 | c :: cs,r => by
  rw [List.foldl_cons]
  have h1:=ztm one cs (stepI one r c)
  have h2 : (stepI one r c).2.length ≤ r.2.length + 2:=by
   unfold stepI
   split <;> simp
  rw [List.length_cons]
  omega
/-! ### moves of channels -/
def Bd (n : Int) (cs : List Chan) : Prop:=∀ c ∈ cs,(-n ≤ c.Local∧c.Local ≤ n)∧(-n ≤ c.Remote∧c.Remote ≤ n)
theorem Bd.modify {n m : Int} {cs : List Chan} (h : Bd n cs) (i : Nat) (f : Chan → Chan) (hf : ∀ c,(-n ≤ c.Local∧c.Local ≤ n)∧(-n ≤ c.Remote∧c.Remote ≤ n) → (-m ≤ (f c).Local∧(f c).Local ≤ m)∧(-m ≤ (f c).Remote∧(f c).Remote ≤ m)) (hnm : n ≤ m) : Bd m (cs.modify i f):=by
 intro c hc
 obtain ⟨j,hj,rfl⟩:=List.mem_iff_getElem.1 hc
 rw [List.getElem_modify]
 have hj' : j < cs.length:=by rw [List.length_modify] at hj;exact hj
 have h1:=h _ (List.getElem_mem hj')
 split
 ·
  exact hf _ h1
 ·
  omega
theorem Bd.move {n k : Int} {cs : List Chan} (h : Bd n cs) (ch dl dr : Int) (h1 : -k ≤ dl∧dl ≤ k) (h2 : -k ≤ dr∧dr ≤ k) : Bd (n + k) (moveC cs ch dl dr) :=
 Bd.modify h _ (moveF dl dr) (fun c hc => by simp only [moveF];omega) (by omega)
theorem zmu {cs : List Chan} {ch : Int} (h : 0 ≤ chanIx cs ch) : chanOf cs ch ∈ cs:=by
 obtain ⟨i,hi⟩:=Int.eq_ofNat_of_zero_le h
 have hlt:=zxv hi
 unfold chanOf
 rw [hi,Int.toNat_natCast,List.getD_eq_getElem?_getD,List.getElem?_eq_getElem hlt]
 exact List.getElem_mem hlt
theorem zhx (cs : List Chan) (i : Nat) (f : Chan → Chan) (hf : ∀ c,(f c).Id = c.Id) (ch : Int) : chanIx (cs.modify i f) ch = chanIx cs ch:=by
 have h : ∀ (cs : List Chan) (i : Nat),(cs.modify i f).findIdx? (fun c => !notId ch c) = cs.findIdx? (fun c => !notId ch c):=by
  intro cs
  induction cs with
  | nil => intro i;simp
  | cons c cs ih =>
   intro i
   cases i with
   | zero => simp [List.findIdx?_cons,notId,hf]
   | succ i => simp [List.findIdx?_cons,ih]
 unfold chanIx
 rw [h]
theorem zxs (cs : List Chan) (a dl dr ch : Int) : chanIx (moveC cs a dl dr) ch = chanIx cs ch:=zhx cs _ (moveF dl dr) (fun _ => rfl) ch
theorem zxj (cs : List Chan) (a dl dr : Int) : (moveC cs a dl dr).length = cs.length:=by
 unfold moveC setCh
 rw [List.length_modify]
theorem Bd.at_ {n : Int} {cs : List Chan} (h : Bd n cs) {ch : Int} (hix : 0 ≤ chanIx cs ch) : (-n ≤ (chanOf cs ch).Local∧(chanOf cs ch).Local ≤ n)∧(-n ≤ (chanOf cs ch).Remote∧(chanOf cs ch).Remote ≤ n):=h _ (zmu hix)
theorem zko {cs : List Chan} {ch : Int} {i : Nat} (hi : chanIx cs ch = (i : Int)) (hlt : i < cs.length) (f : Chan → Chan) : setCh cs ch f = cs.set i (f cs[i]):=by
 unfold setCh
 rw [hi,Int.toNat_natCast,zyy hlt]
theorem zjx {bt bn bw : Int} {cs : List Chan} {hs : List Htlc} {os : List Circle} (h : BookFacts bt bn bw cs hs os) : Bd 1125899906842624 cs:=by
 intro c hc
 obtain ⟨j,hj,rfl⟩:=List.mem_iff_getElem.1 hc
 have h1:=h.ch j hj
 simp only [chB,Bool.and_eq_true,zxy] at h1
 omega
section
variable {T : TypeId} {w0 w : World} {B X : Nat} {b : Bk} {L : List Line} {code : Int} {A1 A2 A3 A4 : Option Addr} {p1 p2 p3 p4 : Nat}
theorem Wk.putCell {g i j : Nat} {c' : Chan} {u : Value} (h : Wk T w0 w B X b L code (some ⟨g,0,none⟩) A2 A3 A4 p1 p2 p3 p4) (hT1 : 103 ≠ T) (hi : i < b.cs.length) (hj : j < 7) (hc : c'.cells = b.cs[i].cells.set j u) :
  Wk T w0 (w.setCell ⟨g,i * 7 + j,none⟩ u) B X ⟨b.t,b.n,b.w,b.cs.set i c',b.hs,b.os⟩ L code (some ⟨g,0,none⟩) A2 A3 A4 p1 p2 p3 p4:=by
 have hg:=zqh (World.grownBy.refl w (some g)) (i * 7 + j) u
 obtain ⟨cur,hh⟩:=h.o.c.heapW
 have hr : (b.cs.map Chan.cells)[i]? = some b.cs[i].cells:=by rw [List.getElem?_map,List.getElem?_eq_getElem hi];rfl
 have h7:=h.o.c.stored hr hj u
 have hgX : some X ≠ some g:=fun e => by
  injection e with e
  subst e
  rw [h.x] at hh
  injection hh with hh
  injection hh with _ hh
  exact hT1 hh.symm
 have hBg : B ≤ g:=(h.o.c.block g (by simp [Value.ownBlock])).1
 refine ⟨?_,⟨?_,?_,?_⟩,?_,?_,?_,h.bx⟩
 ·
  rw [List.length_set]
  exact zqd hg hgX h.x
 ·
  rw [List.length_set,zkm,hc]
  exact h7
 ·
  exact h.o.h.grown hg (Or.inr (h.o.h.ne_ hh (by decide)).symm)
 ·
  exact h.o.o.grown hg (Or.inr (h.o.o.ne_ hh (by decide)).symm)
 ·
  exact h.l.grown hg (Or.inr (h.l.ne_ hh (by decide)).symm)
 ·
  exact h.b.grown hg h.ble (fun k e => by injection e with e;omega)
 ·
  intro k cs t h1 h2
  have h3:=h.f k cs t h1 h2
  refine zqd hg ?_ h3
  intro e
  injection e with e
  subst e
  rw [hh] at h3
  injection h3 with h3
  injection h3 with _ h3
  exact h2 (by rw [← h3];simp [wkTs])
end
/-! ### a list that is mapped place by place -/
def mapTo {α : Type} (f : α → α) (l : List α) (k : Nat) : List α:=(l.take k).map f ++ l.drop k
theorem zvv {α : Type} (f : α → α) (l : List α) : mapTo f l 0 = l:=by simp [mapTo]
theorem zvm {α : Type} (f : α → α) (l : List α) (k : Nat) : (mapTo f l k).length = l.length:=by simp [mapTo];omega
theorem zwt {α : Type} (f : α → α) (l : List α) : mapTo f l l.length = l.map f:=by simp [mapTo]
theorem zkl {α : Type} (f : α → α) {l : List α} {k : Nat} (h : k < l.length) : (mapTo f l k)[k]? = some l[k]:=by
 unfold mapTo
 rw [List.getElem?_append_right (by simp;omega)]
 simp only [List.length_map,List.length_take,Nat.min_eq_left (Nat.le_of_lt h),Nat.sub_self,List.getElem?_drop,Nat.add_zero]
 exact List.getElem?_eq_getElem h
theorem zvn {α : Type} (f : α → α) {l : List α} {k : Nat} (h : k < l.length) : (mapTo f l k).set k (f l[k]) = mapTo f l (k + 1):=by
 unfold mapTo
 have e1 : l.drop k = l[k] :: l.drop (k + 1):=List.drop_eq_getElem_cons h
 rw [List.set_append_right _ _ (by simp;omega),e1]
 simp only [List.length_map,List.length_take,Nat.min_eq_left (Nat.le_of_lt h),Nat.sub_self,List.set_cons_zero]
 rw [List.take_succ_eq_append_getElem h,List.map_append,List.append_assoc]
 rfl
theorem zhn {α : Type} (f : α → α) {l : List α} {k : Nat} (h : k < l.length) (hf : f l[k] = l[k]) : mapTo f l k = mapTo f l (k + 1):=by
 rw [← zvn f h,hf]
 apply List.ext_getElem?
 intro j
 rw [List.getElem?_set]
 by_cases hj : k = j
 ·
  subst hj
  rw [zkl f h]
  simp [zvm,h]
 ·
  simp [hj]
section
variable {T : TypeId} {w0 w : World} {B X : Nat} {b : Bk} {L : List Line} {code : Int} {A1 A2 A3 A4 : Option Addr} {p1 p2 p3 p4 : Nat}
theorem Wk.putCellH {g i j : Nat} {c c' : Htlc} {u : Value} (h : Wk T w0 w B X b L code A1 (some ⟨g,0,none⟩) A3 A4 p1 p2 p3 p4) (hT1 : 70 ≠ T) (hi : b.hs[i]? = some c) (hj : j < 7) (hc : c'.cells = c.cells.set j u) :
  Wk T w0 (w.setCell ⟨g,i * 7 + j,none⟩ u) B X ⟨b.t,b.n,b.w,b.cs,b.hs.set i c',b.os⟩ L code A1 (some ⟨g,0,none⟩) A3 A4 p1 p2 p3 p4:=by
 have hg:=zqh (World.grownBy.refl w (some g)) (i * 7 + j) u
 obtain ⟨cur,hh⟩:=h.o.h.heapW
 have hr : (b.hs.map Htlc.cells)[i]? = some c.cells:=by rw [List.getElem?_map,hi];rfl
 have h7:=h.o.h.stored hr hj u
 have hgX : some X ≠ some g:=fun e => by
  injection e with e
  subst e
  rw [h.x] at hh
  injection hh with hh
  injection hh with _ hh
  exact hT1 hh.symm
 have hBg : B ≤ g:=(h.o.h.block g (by simp [Value.ownBlock])).1
 refine ⟨?_,⟨?_,?_,?_⟩,?_,?_,?_,h.bx⟩
 ·
  rw [List.length_set]
  exact zqd hg hgX h.x
 ·
  exact h.o.c.grown hg (Or.inr (h.o.c.ne_ hh (by decide)).symm)
 ·
  rw [List.length_set,List.map_set,hc]
  exact h7
 ·
  exact h.o.o.grown hg (Or.inr (h.o.o.ne_ hh (by decide)).symm)
 ·
  exact h.l.grown hg (Or.inr (h.l.ne_ hh (by decide)).symm)
 ·
  exact h.b.grown hg h.ble (fun k e => by injection e with e;omega)
 ·
  intro k cs t h1 h2
  have h3:=h.f k cs t h1 h2
  refine zqd hg ?_ h3
  intro e
  injection e with e
  subst e
  rw [hh] at h3
  injection h3 with h3
  injection h3 with _ h3
  exact h2 (by rw [← h3];simp [wkTs])
theorem Wk.putCellC {g i j : Nat} {c c' : Chan} {u : Value} (h : Wk T w0 w B X b L code (some ⟨g,0,none⟩) A2 A3 A4 p1 p2 p3 p4) (hT1 : 103 ≠ T) (hi : b.cs[i]? = some c) (hj : j < 7) (hc : c'.cells = c.cells.set j u) :
  Wk T w0 (w.setCell ⟨g,i * 7 + j,none⟩ u) B X ⟨b.t,b.n,b.w,b.cs.set i c',b.hs,b.os⟩ L code (some ⟨g,0,none⟩) A2 A3 A4 p1 p2 p3 p4:=by
 obtain ⟨hlt,hci⟩:=List.getElem?_eq_some_iff.1 hi
 exact h.putCell hT1 hlt hj (by rw [hci];exact hc)
theorem Wk.appO (h : Wk T w0 w B X b L code A1 A2 A3 A4 p1 p2 p3 p4) (hT1 : 103 ≠ T) (hT2 : 70 ≠ T) (hT3 : 93 ≠ T) (hT4 : 99 ≠ T) {x : World} {g cap : Nat} {c : Circle} (how : Ow x B 93 5 (.slice (some ⟨g,0,none⟩) ((b.os.map Circle.cells).length + 1) cap) (b.os.map Circle.cells ++ [c.cells])) (hgr : w.grownBy x (Value.slice A3 b.os.length p3).ownBlock) :
  x.heap[X]? = some (.cells #[.int .i64 b.t,.int .i64 b.n,.int .i64 b.w,.slice A1 b.cs.length p1,.slice A2 b.hs.length p2,.slice A3 b.os.length p3,.slice A4 L.length p4,.int .i64 code] T (0,0)) ∧
   Wk T w0 (x.setCell ⟨X,5,none⟩ (.slice (some ⟨g,0,none⟩) (b.os.length + 1) cap)) B X ⟨b.t,b.n,b.w,b.cs,b.hs,b.os ++ [c]⟩ L code A1 A2 (some ⟨g,0,none⟩) A4 p1 p2 cap p4:=by
 have hx:=zqd hgr (h.o.o.ne_ h.x hT3) h.x
 have e1 : b.os.length + 1 = (b.os ++ [c]).length:=by simp
 have how' : Ow x B 93 5 (.slice (some ⟨g,0,none⟩) (b.os ++ [c]).length cap) ((b.os ++ [c]).map Circle.cells):=by
  rw [← e1,List.map_append]
  rw [List.length_map] at how
  exact how
 refine ⟨hx,⟨?_,⟨(h.o.c.apart_ h.o.o (by decide) hgr).aside hx hT1 _,(h.o.h.apart_ h.o.o (by decide) hgr).aside hx hT2 _,by rw [e1];exact how'.aside hx hT3 _⟩,(h.l.apart_ h.o.o (by decide) hgr).aside hx hT4 _,(h.b.grown hgr h.ble (fun k e => (h.o.o.block k e).1)).setCell h.bx _,(h.f.grown h.o.o (by simp [wkTs]) hgr).set hx (by simp [wkTs]) _,h.bx⟩⟩
 have h9:=zqa (i:=5) (u:=.slice (some ⟨g,0,none⟩) (b.os ++ [c]).length cap) hx
 rw [e1]
 exact h9
theorem Wk.appH (h : Wk T w0 w B X b L code A1 A2 A3 A4 p1 p2 p3 p4) (hT1 : 103 ≠ T) (hT2 : 70 ≠ T) (hT3 : 93 ≠ T) (hT4 : 99 ≠ T) {x : World} {g cap : Nat} {c : Htlc} (how : Ow x B 70 7 (.slice (some ⟨g,0,none⟩) ((b.hs.map Htlc.cells).length + 1) cap) (b.hs.map Htlc.cells ++ [c.cells])) (hgr : w.grownBy x (Value.slice A2 b.hs.length p2).ownBlock) :
  x.heap[X]? = some (.cells #[.int .i64 b.t,.int .i64 b.n,.int .i64 b.w,.slice A1 b.cs.length p1,.slice A2 b.hs.length p2,.slice A3 b.os.length p3,.slice A4 L.length p4,.int .i64 code] T (0,0)) ∧
   Wk T w0 (x.setCell ⟨X,4,none⟩ (.slice (some ⟨g,0,none⟩) (b.hs.length + 1) cap)) B X ⟨b.t,b.n,b.w,b.cs,b.hs ++ [c],b.os⟩ L code A1 (some ⟨g,0,none⟩) A3 A4 p1 cap p3 p4:=by
 have hx:=zqd hgr (h.o.h.ne_ h.x hT2) h.x
 have e1 : b.hs.length + 1 = (b.hs ++ [c]).length:=by simp
 have how' : Ow x B 70 7 (.slice (some ⟨g,0,none⟩) (b.hs ++ [c]).length cap) ((b.hs ++ [c]).map Htlc.cells):=by
  rw [← e1,List.map_append]
  rw [List.length_map] at how
  exact how
 refine ⟨hx,⟨?_,⟨(h.o.c.apart_ h.o.h (by decide) hgr).aside hx hT1 _,by rw [e1];exact how'.aside hx hT2 _,(h.o.o.apart_ h.o.h (by decide) hgr).aside hx hT3 _⟩,(h.l.apart_ h.o.h (by decide) hgr).aside hx hT4 _,(h.b.grown hgr h.ble (fun k e => (h.o.h.block k e).1)).setCell h.bx _,(h.f.grown h.o.h (by simp [wkTs]) hgr).set hx (by simp [wkTs]) _,h.bx⟩⟩
 have h9:=zqa (i:=4) (u:=.slice (some ⟨g,0,none⟩) (b.hs ++ [c]).length cap) hx
 rw [e1]
 exact h9
end
section
variable {T : TypeId} {w0 w w' : World} {B X : Nat} {b : Bk} {L : List Line} {code : Int} {A1 A2 A3 A4 : Option Addr} {p1 p2 p3 p4 : Nat}
theorem Wk.ownBox {g C : Nat} {cells : Array Value} (h : Wk T w0 w B X b L code (some ⟨g,0,none⟩) A2 A3 A4 p1 p2 p3 p4) (hX : C ≠ X) (hg : g ≠ C) (hB : B ≤ C) (hC : w.heap[C]? = some (.cells cells 103 (0,0))) (hgr : w.grownBy w' (some C)) : Wk T w0 w' B X b L code (some ⟨g,0,none⟩) A2 A3 A4 p1 p2 p3 p4:=by
 refine ⟨zqd hgr (fun e => hX (Option.some.inj e).symm) h.x,⟨h.o.c.grown hgr (Or.inr (fun e => hg (by simpa [Value.ownBlock] using e))),h.o.h.grown hgr (Or.inr (h.o.h.ne_ hC (by decide)).symm),h.o.o.grown hgr (Or.inr (h.o.o.ne_ hC (by decide)).symm)⟩,h.l.grown hgr (Or.inr (h.l.ne_ hC (by decide)).symm),h.b.grown hgr h.ble (fun k e => by injection e with e;omega),?_,h.bx⟩
 intro k cs t h1 h2
 have h3:=h.f k cs t h1 h2
 refine zqd hgr ?_ h3
 intro e
 injection e with e
 subst e
 rw [hC] at h3
 injection h3 with h3
 injection h3 with _ h3
 exact h2 (by rw [← h3];simp [wkTs])
end
theorem own8 {w : World} {X : Nat} {T : TypeId} {u0 u1 u2 u3 u4 u5 u6 u7 : Value} (h : w.heap[X]? = some (.cells #[u0,u1,u2,u3,u4,u5,u6,u7] T (0,0))) : True∧w.cell? ⟨X,0,none⟩ = some u0∧w.cell? ⟨X,1,none⟩ = some u1∧w.cell? ⟨X,2,none⟩ = some u2∧w.cell? ⟨X,3,none⟩ = some u3∧w.cell? ⟨X,4,none⟩ = some u4∧w.cell? ⟨X,5,none⟩ = some u5∧w.cell? ⟨X,6,none⟩ = some u6∧w.cell? ⟨X,7,none⟩ = some u7∧(∀ i,w.frozen? ⟨X,i,none⟩ = false)∧X < w.heap.size :=
 ⟨trivial,zqf h 0,zqf h 1,zqf h 2,zqf h 3,zqf h 4,zqf h 5,zqf h 6,zqf h 7,zqo h,(gz_ h).1⟩
end Go.Proofs.YtdbmkfmenfcbiaaGreat
namespace Go.Proofs.YtdbmkfmenfcbiaaGreat
open Go.RowKit Go.Deep
set_option maxRecDepth 100000 in
set_option maxHeartbeats 4000000 in
theorem zhm (b : Bk) (A1 A2 A3 : Option Addr) (p1 p2 p3 : Nat) (w : World) (l1 : b.cs.length ≤ 1048576) (l2 : b.hs.length ≤ 1048576) (l3 : b.os.length ≤ 1048576) (hr : RdBook w w.heap.size A1 b.cs A2 b.hs A3 b.os) :
  Calls Tryz.prog 43 #[.agg #[.int .i64 b.t,.int .i64 b.n,.int .i64 b.w,.slice A1 b.cs.length p1,.slice A2 b.hs.length p2,.slice A3 b.os.length p3]] w (CopyP w b):=by
 obtain ⟨i0,hi,hz0,hz1,hz2⟩:=info_parts zkx
 obtain ⟨j0,hj,hy0,hy1,hy2⟩:=info_parts zjw
 obtain ⟨k0,hk,hx0,hx1,hx2⟩:=info_parts zkf
 have HI0:=hd_ hi
 have HI1:=hd_ hz0
 have HI2:=hd_ hz1
 have HI3:=hd_ hz2
 have HJ0:=hd_ hj
 have HJ1:=hd_ hy0
 have HJ2:=hd_ hy1
 have HJ3:=hd_ hy2
 have HK0:=hd_ hk
 have HK1:=hd_ hx0
 have HK2:=hd_ hx1
 have HK3:=hd_ hx2
 have HR:=hd_ hr
 clear hi hz0 hz1 hz2 hj hy0 hy1 hy2 hk hx0 hx1 hx2 hr
 go_enter Tryz.func43,Tryz.ntmps43
 go_wp2_with (at_builtin;refine Stop.go ?_)
 refine Stop.on ?_
 refine zjp rfl _ _ _ rfl w.heap.size 103 i0 _ 7 56 Tryz.underlying35 HI0.out HI1.out HI2.out HI3.out rfl (by decide) _ _ [] 0 rfl (by rfl) Ow.nil_ A1 p1 (b.cs.map Chan.cells) b.cs.length (by rw [List.length_map]) (by rfl) w.heap.size (HR.out.c.below (bl_)) (zyl b.cs) (by rw [List.length_map];simp only [List.length_nil];omega) (by decide) (by first | omega | (simp;done) | (simp;omega)) ?_
 intro C1 q1 w1 how1 hb1 hg1
 simp only [Nat.zero_add,List.nil_append] at how1 ⊢
 have kX : Hid (w1.heap[w.heap.size]? = some (.cells (bkC b A1 p1 A2 p2 A3 p3) 39 (0,0))):=hd_ (zqd hg1 (by first | (simp [Value.ownBlock];done) | (simp [Value.ownBlock];omega)) (zqg (by simp) (zqm rfl)))
 have kY : Hid (w1.heap[w.heap.size + 1]? = some (.cells #[.int .i64 0,.int .i64 0,.int .i64 0,.slice none 0 0,.slice none 0 0,.slice none 0 0] 39 (0,0))):=hd_ (zqd hg1 (by first | (simp [Value.ownBlock];done) | (simp [Value.ownBlock];omega)) (zqm (by simp)))
 have kB : Hid (Below w.heap.size w w1):=hd_ (bl_)
 have kO1:=hd_ how1
 clear how1 hb1 hg1
 obtain ⟨_,x0,x1,x2,x3,x4,x5,xf,xz⟩:=own6 (Below.refl _ _) (gz_ kX.out).1 kX.out
 obtain ⟨_,y0,y1,y2,y3,y4,y5,yf,_⟩:=own6 (Below.refl _ _) (gz_ kY.out).1 kY.out
 go_wp2_with (at_builtin;refine Stop.go ?_)
 refine Stop.on ?_
 clear x0 x1 x2 x3 x4 x5 xf y0 y1 y2 y3 y4 y5 yf
 obtain ⟨v1,hv1⟩ : ∃ v,w1.setCell ⟨w.heap.size,3,none⟩ (.slice C1 b.cs.length q1) = v:=⟨_,rfl⟩
 have hX1 : Hid (v1.heap[w.heap.size]? = some (.cells (bkC b C1 q1 A2 p2 A3 p3) 39 (0,0))):=hd_ (by rw [← hv1];exact zqa kX.out)
 have hY1 : Hid (v1.heap[w.heap.size + 1]? = some (.cells #[.int .i64 0,.int .i64 0,.int .i64 0,.slice none 0 0,.slice none 0 0,.slice none 0 0] 39 (0,0))):=hd_ (by rw [← hv1];exact zjk (by simp) kY.out)
 have hB1 : Hid (Below w.heap.size w v1):=hd_ (by rw [← hv1];exact kB.out.setCell (Nat.le_refl _) _)
 have hO1:=hd_ (show Ow v1 w.heap.size 103 7 (.slice C1 b.cs.length q1) (b.cs.map Chan.cells) by rw [← hv1];exact kO1.out.aside kX.out (by decide) _)
 have hs1 : w1.heap.size = v1.heap.size:=by rw [← hv1];simp
 rw [hv1]
 try rw [hs1]
 clear hs1 hv1 kX kY kB xz kO1
 obtain ⟨_,x0,x1,x2,x3,x4,x5,xf,xz⟩:=own6 (Below.refl _ _) (gz_ hX1.out).1 hX1.out
 have yz:=(gz_ hY1.out).1
 refine zjp rfl _ _ _ rfl w.heap.size 70 j0 _ 7 56 Tryz.underlying36 HJ0.out HJ1.out HJ2.out HJ3.out rfl (by decide) _ _ [] 0 rfl (by rfl) Ow.nil_ A2 p2 (b.hs.map Htlc.cells) b.hs.length (by rw [List.length_map]) (by rfl) w.heap.size (HR.out.h.below (bl_)) (zvh b.hs) (by rw [List.length_map];simp only [List.length_nil];omega) (by decide) (by first | omega | (simp;done) | (simp;omega)) ?_
 intro C2 q2 w2 how2 hb2 hg2
 simp only [Nat.zero_add,List.nil_append] at how2 ⊢
 have kX : Hid (w2.heap[w.heap.size]? = some (.cells (bkC b C1 q1 A2 p2 A3 p3) 39 (0,0))):=hd_ (zqd hg2 (by first | (simp [Value.ownBlock];done) | (simp [Value.ownBlock];omega)) hX1.out)
 have kY : Hid (w2.heap[w.heap.size + 1]? = some (.cells #[.int .i64 0,.int .i64 0,.int .i64 0,.slice none 0 0,.slice none 0 0,.slice none 0 0] 39 (0,0))):=hd_ (zqd hg2 (by first | (simp [Value.ownBlock];done) | (simp [Value.ownBlock];omega)) hY1.out)
 have kB : Hid (Below w.heap.size w w2):=hd_ (bl_)
 have kO1:=hd_ (hO1.out.below ⟨hg2.os,hg2.tape,hg2.output,hg2.size,fun k9 h9 => hg2.block k9 h9 (by simp [Value.ownBlock])⟩)
 clear xf xz yz x0 x1 x2 x3 x4 x5 hO1 hX1 hY1 hB1
 have kO2:=hd_ how2
 clear how2 hb2 hg2
 obtain ⟨_,x0,x1,x2,x3,x4,x5,xf,xz⟩:=own6 (Below.refl _ _) (gz_ kX.out).1 kX.out
 obtain ⟨_,y0,y1,y2,y3,y4,y5,yf,_⟩:=own6 (Below.refl _ _) (gz_ kY.out).1 kY.out
 go_wp2_with (at_builtin;refine Stop.go ?_)
 refine Stop.on ?_
 clear x0 x1 x2 x3 x4 x5 xf y0 y1 y2 y3 y4 y5 yf
 obtain ⟨v2,hv2⟩ : ∃ v,w2.setCell ⟨w.heap.size,4,none⟩ (.slice C2 b.hs.length q2) = v:=⟨_,rfl⟩
 have hX2 : Hid (v2.heap[w.heap.size]? = some (.cells (bkC b C1 q1 C2 q2 A3 p3) 39 (0,0))):=hd_ (by rw [← hv2];exact zqa kX.out)
 have hY2 : Hid (v2.heap[w.heap.size + 1]? = some (.cells #[.int .i64 0,.int .i64 0,.int .i64 0,.slice none 0 0,.slice none 0 0,.slice none 0 0] 39 (0,0))):=hd_ (by rw [← hv2];exact zjk (by simp) kY.out)
 have hB2 : Hid (Below w.heap.size w v2):=hd_ (by rw [← hv2];exact kB.out.setCell (Nat.le_refl _) _)
 have hO1:=hd_ (show Ow v2 w.heap.size 103 7 (.slice C1 b.cs.length q1) (b.cs.map Chan.cells) by rw [← hv2];exact kO1.out.aside kX.out (by decide) _)
 have hO2:=hd_ (show Ow v2 w.heap.size 70 7 (.slice C2 b.hs.length q2) (b.hs.map Htlc.cells) by rw [← hv2];exact kO2.out.aside kX.out (by decide) _)
 have hs2 : w2.heap.size = v2.heap.size:=by rw [← hv2];simp
 rw [hv2]
 try rw [hs2]
 clear hs2 hv2 kX kY kB xz kO1 kO2
 obtain ⟨_,x0,x1,x2,x3,x4,x5,xf,xz⟩:=own6 (Below.refl _ _) (gz_ hX2.out).1 hX2.out
 have yz:=(gz_ hY2.out).1
 refine zjp rfl _ _ _ rfl w.heap.size 93 k0 _ 5 40 Tryz.underlying37 HK0.out HK1.out HK2.out HK3.out rfl (by decide) _ _ [] 0 rfl (by rfl) Ow.nil_ A3 p3 (b.os.map Circle.cells) b.os.length (by rw [List.length_map]) (by rfl) w.heap.size (HR.out.o.below (bl_)) (zwm b.os) (by rw [List.length_map];simp only [List.length_nil];omega) (by decide) (by first | omega | (simp;done) | (simp;omega)) ?_
 intro C3 q3 w3 how3 hb3 hg3
 simp only [Nat.zero_add,List.nil_append] at how3 ⊢
 have kX : Hid (w3.heap[w.heap.size]? = some (.cells (bkC b C1 q1 C2 q2 A3 p3) 39 (0,0))):=hd_ (zqd hg3 (by first | (simp [Value.ownBlock];done) | (simp [Value.ownBlock];omega)) hX2.out)
 have kY : Hid (w3.heap[w.heap.size + 1]? = some (.cells #[.int .i64 0,.int .i64 0,.int .i64 0,.slice none 0 0,.slice none 0 0,.slice none 0 0] 39 (0,0))):=hd_ (zqd hg3 (by first | (simp [Value.ownBlock];done) | (simp [Value.ownBlock];omega)) hY2.out)
 have kB : Hid (Below w.heap.size w w3):=hd_ (bl_)
 have kO1:=hd_ (hO1.out.below ⟨hg3.os,hg3.tape,hg3.output,hg3.size,fun k9 h9 => hg3.block k9 h9 (by simp [Value.ownBlock])⟩)
 have kO2:=hd_ (hO2.out.below ⟨hg3.os,hg3.tape,hg3.output,hg3.size,fun k9 h9 => hg3.block k9 h9 (by simp [Value.ownBlock])⟩)
 clear xf xz yz x0 x1 x2 x3 x4 x5 hO1 hO2 hX2 hY2 hB2
 have kO3:=hd_ how3
 clear how3 hb3 hg3
 obtain ⟨_,x0,x1,x2,x3,x4,x5,xf,xz⟩:=own6 (Below.refl _ _) (gz_ kX.out).1 kX.out
 obtain ⟨_,y0,y1,y2,y3,y4,y5,yf,_⟩:=own6 (Below.refl _ _) (gz_ kY.out).1 kY.out
 go_wp2_with (at_builtin;refine Stop.go ?_)
 clear x0 x1 x2 x3 x4 x5 xf y0 y1 y2 y3 y4 y5 yf
 obtain ⟨v3,hv3⟩ : ∃ v,w3.setCell ⟨w.heap.size,5,none⟩ (.slice C3 b.os.length q3) = v:=⟨_,rfl⟩
 have hX3 : Hid (v3.heap[w.heap.size]? = some (.cells (bkC b C1 q1 C2 q2 C3 q3) 39 (0,0))):=hd_ (by rw [← hv3];exact zqa kX.out)
 have hY3 : Hid (v3.heap[w.heap.size + 1]? = some (.cells #[.int .i64 0,.int .i64 0,.int .i64 0,.slice none 0 0,.slice none 0 0,.slice none 0 0] 39 (0,0))):=hd_ (by rw [← hv3];exact zjk (by simp) kY.out)
 have hB3 : Hid (Below w.heap.size w v3):=hd_ (by rw [← hv3];exact kB.out.setCell (Nat.le_refl _) _)
 have hO1:=hd_ (show Ow v3 w.heap.size 103 7 (.slice C1 b.cs.length q1) (b.cs.map Chan.cells) by rw [← hv3];exact kO1.out.aside kX.out (by decide) _)
 have hO2:=hd_ (show Ow v3 w.heap.size 70 7 (.slice C2 b.hs.length q2) (b.hs.map Htlc.cells) by rw [← hv3];exact kO2.out.aside kX.out (by decide) _)
 have hO3:=hd_ (show Ow v3 w.heap.size 93 5 (.slice C3 b.os.length q3) (b.os.map Circle.cells) by rw [← hv3];exact kO3.out.aside kX.out (by decide) _)
 have hs3 : w3.heap.size = v3.heap.size:=by rw [← hv3];simp
 rw [hv3]
 try rw [hs3]
 clear hs3 hv3 kX kY kB xz kO1 kO2 kO3
 obtain ⟨_,x0,x1,x2,x3,x4,x5,xf,xz⟩:=own6 (Below.refl _ _) (gz_ hX3.out).1 hX3.out
 have yz:=(gz_ hY3.out).1
 obtain ⟨vr,hvr⟩ : ∃ v,(((((v3.setCell ⟨w.heap.size + 1,0,none⟩ (.int .i64 b.t)).setCell ⟨w.heap.size + 1,1,none⟩ (.int .i64 b.n)).setCell ⟨w.heap.size + 1,2,none⟩ (.int .i64 b.w)).setCell ⟨w.heap.size + 1,3,none⟩ (.slice C1 b.cs.length q1)).setCell ⟨w.heap.size + 1,4,none⟩ (.slice C2 b.hs.length q2)).setCell ⟨w.heap.size + 1,5,none⟩ (.slice C3 b.os.length q3) = v:=⟨_,rfl⟩
 have hR : Hid (vr.heap[w.heap.size + 1]? = some (.cells (bkC b C1 q1 C2 q2 C3 q3) 39 (0,0))):=hd_ (by rw [← hvr];exact zqa (zqa (zqa (zqa (zqa (zqa hY3.out))))))
 have hG : Hid (v3.grownBy vr (some (w.heap.size + 1))):=hd_ (by rw [← hvr];exact zqh (zqh (zqh (zqh (zqh (zqh (World.grownBy.refl v3 (some (w.heap.size + 1))) _ _) _ _) _ _) _ _) _ _) _ _)
 rw [hvr]
 clear hvr x0 x1 x2 x3 x4 x5 xf xz yz
 obtain ⟨_,y0,y1,y2,y3,y4,y5,yf,_⟩:=own6 (Below.refl _ _) (gz_ hR.out).1 hR.out
 refine bodyPost_ret (v:=.agg #[.int .i64 b.t,.int .i64 b.n,.int .i64 b.w,.slice C1 b.cs.length q1,.slice C2 b.hs.length q2,.slice C3 b.os.length q3]) (by simp [results,Tryz.results43,go_sem, *]) rfl ?_
 refine ⟨_,_,_,_,_,_,rfl,⟨hO1.out.grown hG.out (Or.inr (hO1.out.ne_ hY3.out (by decide)).symm),hO2.out.grown hG.out (Or.inr (hO2.out.ne_ hY3.out (by decide)).symm),hO3.out.grown hG.out (Or.inr (hO3.out.ne_ hY3.out (by decide)).symm)⟩,hB3.out.grown hG.out (by have:=hB3.out.size;omega) (fun k e => by injection e with e;omega)⟩
end Go.Proofs.YtdbmkfmenfcbiaaGreat
namespace Go.Proofs.YtdbmkfmenfcbiaaGreat
open Go.RowKit Go.Deep
theorem tickB_2 {b : Bk} (h : b.t = 1125899906842624) : tickB b = bad 2:=by unfold tickB;rw [if_pos h]
theorem zsl {b : Bk} (h : b.t ≠ 1125899906842624) (h5 : (b.t + 1) % 5 = 0) : tickB b = done ⟨b.t + 1,b.n,b.w,b.cs.map fadeC,b.hs.map olderH,b.os⟩ []:=by unfold tickB;rw [if_neg h,if_pos h5]
theorem tickB_no {b : Bk} (h : b.t ≠ 1125899906842624) (h5 : (b.t + 1) % 5 ≠ 0) : tickB b = done ⟨b.t + 1,b.n,b.w,b.cs,b.hs.map olderH,b.os⟩ []:=by unfold tickB;rw [if_neg h,if_neg h5]
set_option maxRecDepth 100000 in
set_option maxHeartbeats 4000000 in
theorem zsf (w0 w : World) (B X : Nat) (b : Bk) (A1 A2 A3 A4 : Option Addr) (p1 p2 p3 p4 : Nat) (hF : BookFacts b.t b.n b.w b.cs b.hs b.os) (h : Wk 108 w0 w B X b [] 0 A1 A2 A3 A4 p1 p2 p3 p4) :
  Calls Tryz.prog 72 #[.pointer (some ⟨X,0,none⟩)] w (Acts 108 w B X (tickB b)):=by
 have H:=hd_ h.here
 clear h
 obtain ⟨L,hL⟩ : ∃ L : List Line,L = []:=⟨_,rfl⟩
 rw [← hL] at H
 have HL:=hd_ hL
 clear hL
 obtain ⟨m1,m2⟩:=hF.t
 have hcl:=hF.cl
 have h60:=hF.small.hl
 have HAge : Hid (∀ k,(hk : k < b.hs.length) → 0 ≤ b.hs[k].Age∧b.hs[k].Age ≤ 1125899906842624):=hd_ (fun k hk => by have hp:=hF.parts;simp only [partsB,Bool.and_eq_true] at hp;have h1:=List.all_eq_true.1 hp.1.1 _ (List.getElem_mem hk);simp only [htlcB,Bool.and_eq_true,zxy] at h1;exact h1.2)
 clear hF
 cases t1 : (b.t == 1125899906842624)
 ·
  have hne:=hd_ (beq_eq_false_iff_ne.1 t1)
  have m3 : b.t < 1125899906842624:=by have:=hne.out;omega
  cases t5 : ((b.t + 1) % 5 == 0)
  ·
   have HO:=hd_ (tickB_no (b:=b) hne.out (beq_eq_false_iff_ne.1 t5))
   have HW_w:=H
   clear H
   obtain ⟨a0,a1,a2,a3,a4,a5,a6,a7,af,az⟩:=HW_w.out.open_
   go_enter Tryz.func72,Tryz.ntmps72
   go_wp2_with fail
   refine (zqn _ _ B X b L A1 A2 A3 A4 p1 p2 p3 p4 2 HW_w.out).mono ?_
   rintro e' wz ⟨rfl,rfl⟩
   clear t1
   go_wp2_with fail
   refine nm_ ?_
   intro w1 hw
   have HW_w1 : Hid (Wk 108 w w1 B X ⟨(b.t + 1),b.n,b.w,b.cs,b.hs,b.os⟩ L 0 A1 A2 A3 A4 p1 p2 p3 p4):=hd_ (by rw [hw];exact HW_w.out.setTick (by decide) (by decide) (by decide) (by decide) _)
   clear hw
   clear a0 a1 a2 a3 a4 a5 a6 a7 af az
   obtain ⟨a0,a1,a2,a3,a4,a5,a6,a7,af,az⟩:=HW_w1.out.open_
   clear a0 a1 a2 a3 a4 a5 a6 a7 af az
   go_loopw [27] (fun i wr => ∃ k : Nat,k ≤ b.hs.length∧i = .int .i64 k∧Hid (Wk 108 w wr B X ⟨(b.t + 1),b.n,b.w,b.cs,mapTo olderH b.hs k,b.os⟩ L 0 A1 A2 A3 A4 p1 p2 p3 p4)) (fun i _ => b.hs.length - (intOf i).toNat)
   case atStart => exact ⟨0,Nat.zero_le _,rfl,by rw [zvv];exact HW_w1⟩
   case round =>
    obtain ⟨k,hk,rfl,HR⟩:=hrel
    have HW_wr:=HR
    clear HR
    have hml:=zvm olderH b.hs k
    have HML:=hd_ hml
    clear hml
    obtain ⟨a0,a1,a2,a3,a4,a5,a6,a7,af,az⟩:=HW_wr.out.open_
    simp only at a0 a1 a2 a3 a4 a5 a6
    rw [HML.out] at a4
    by_cases hlt : k < b.hs.length
    ·
     obtain ⟨g2,hA,hBg⟩:=HW_wr.out.o.h.headW (by rw [List.length_map,HML.out];omega)
     subst hA
     have HRow : Hid (((mapTo olderH b.hs k).map Htlc.cells)[k]? = some b.hs[k].cells):=hd_ (by rw [List.getElem?_map,zkl olderH hlt];rfl)
     have c6:=HW_wr.out.o.h.cellAt HRow.out (j:=6) (by decide)
     simp only [Htlc.cells,List.getElem?_cons_zero,List.getElem?_cons_succ] at c6
     have cf:=fun j => HW_wr.out.o.h.frozenAt j
     obtain ⟨ma,mb⟩:=HAge.out k hlt
     have j0 : (0 : Int) ≤ (k : Int):=by omega
     have j1 : (k : Int) < (b.hs.length : Int):=by omega
     cases tx : decide (b.hs[k].Age < 1125899906842624)
     ·
      have KS:=hd_ (show olderH b.hs[k] = b.hs[k] by unfold olderH;rw [if_neg (of_decide_eq_false tx)])
      go_wp2_with fail
      go_roundw
      case rel => exact ⟨k + 1,by omega,by go_num,by rw [← zhn olderH hlt KS.out];exact HW_wr⟩
      case measure => simp [intOf];omega
     ·
      have KS:=hd_ (show olderH b.hs[k] = { b.hs[k] with Age:=b.hs[k].Age + 1 } by unfold olderH;rw [if_pos (of_decide_eq_true tx)])
      go_wp2_with fail
      go_roundw
      case rel => exact ⟨k + 1,by omega,by go_num,hd_ (by have h9:=HW_wr.out.putCellH (i:=k) (j:=6) (c:=b.hs[k]) (c':={ b.hs[k] with Age:=b.hs[k].Age + 1 }) (u:=.int .i64 (b.hs[k].Age + 1)) (by decide) (zkl olderH hlt) (by decide) rfl;rw [← KS.out,zvn olderH hlt] at h9;exact h9)⟩
      case measure => simp [intOf];omega
    ·
     obtain rfl : k = b.hs.length:=by omega
     go_wp2_with fail
     clear a0 a1 a2 a3 a4 a5 a6 a7 af az
     rw [zwt] at HW_wr
     clear HML hk
     obtain ⟨wo,rfl⟩ : ∃ wo : World,wo = wr:=⟨_,rfl⟩
     have HW_wo:=HW_wr
     clear HW_wr
     go_loopw [59] (fun i wr => ∃ k : Nat,k ≤ b.cs.length∧i = .int .i64 k∧Hid (Wk 108 w wr B X ⟨(b.t + 1),b.n,b.w,b.cs,(b.hs.map olderH),b.os⟩ L 0 A1 A2 A3 A4 p1 p2 p3 p4)) (fun i _ => b.cs.length - (intOf i).toNat)
     case atStart => exact ⟨0,Nat.zero_le _,rfl,HW_wo⟩
     case round =>
      obtain ⟨k,hk,rfl,HR⟩:=hrel
      have HW_wr:=HR
      clear HR
      obtain ⟨a0,a1,a2,a3,a4,a5,a6,a7,af,az⟩:=HW_wr.out.open_
      simp only at a0 a1 a2 a3 a4 a5 a6
      by_cases hlt : k < b.cs.length
      ·
       have j0 : (0 : Int) ≤ (k : Int):=by omega
       have j1 : (k : Int) < (b.cs.length : Int):=by omega
       go_wp2_with fail
       go_roundw
       case rel => exact ⟨k + 1,by omega,by go_num,HW_wr⟩
       case measure => simp [intOf];omega
      ·
       obtain rfl : k = b.cs.length:=by omega
       go_wp2_with fail
       go_end0
       rw [HO.out,← HL.out]
       exact Acts.ok ⟨_,_,_,_,_,_,_,_,rfl,HW_wr.out⟩
  ·
   have HO:=hd_ (zsl (b:=b) hne.out (eq_of_beq t5))
   have HW_w:=H
   clear H
   obtain ⟨a0,a1,a2,a3,a4,a5,a6,a7,af,az⟩:=HW_w.out.open_
   go_enter Tryz.func72,Tryz.ntmps72
   go_wp2_with fail
   refine (zqn _ _ B X b L A1 A2 A3 A4 p1 p2 p3 p4 2 HW_w.out).mono ?_
   rintro e' wz ⟨rfl,rfl⟩
   clear t1
   go_wp2_with fail
   refine nm_ ?_
   intro w1 hw
   have HW_w1 : Hid (Wk 108 w w1 B X ⟨(b.t + 1),b.n,b.w,b.cs,b.hs,b.os⟩ L 0 A1 A2 A3 A4 p1 p2 p3 p4):=hd_ (by rw [hw];exact HW_w.out.setTick (by decide) (by decide) (by decide) (by decide) _)
   clear hw
   clear a0 a1 a2 a3 a4 a5 a6 a7 af az
   obtain ⟨a0,a1,a2,a3,a4,a5,a6,a7,af,az⟩:=HW_w1.out.open_
   clear a0 a1 a2 a3 a4 a5 a6 a7 af az
   go_loopw [27] (fun i wr => ∃ k : Nat,k ≤ b.hs.length∧i = .int .i64 k∧Hid (Wk 108 w wr B X ⟨(b.t + 1),b.n,b.w,b.cs,mapTo olderH b.hs k,b.os⟩ L 0 A1 A2 A3 A4 p1 p2 p3 p4)) (fun i _ => b.hs.length - (intOf i).toNat)
   case atStart => exact ⟨0,Nat.zero_le _,rfl,by rw [zvv];exact HW_w1⟩
   case round =>
    obtain ⟨k,hk,rfl,HR⟩:=hrel
    have HW_wr:=HR
    clear HR
    have hml:=zvm olderH b.hs k
    have HML:=hd_ hml
    clear hml
    obtain ⟨a0,a1,a2,a3,a4,a5,a6,a7,af,az⟩:=HW_wr.out.open_
    simp only at a0 a1 a2 a3 a4 a5 a6
    rw [HML.out] at a4
    by_cases hlt : k < b.hs.length
    ·
     obtain ⟨g2,hA,hBg⟩:=HW_wr.out.o.h.headW (by rw [List.length_map,HML.out];omega)
     subst hA
     have HRow : Hid (((mapTo olderH b.hs k).map Htlc.cells)[k]? = some b.hs[k].cells):=hd_ (by rw [List.getElem?_map,zkl olderH hlt];rfl)
     have c6:=HW_wr.out.o.h.cellAt HRow.out (j:=6) (by decide)
     simp only [Htlc.cells,List.getElem?_cons_zero,List.getElem?_cons_succ] at c6
     have cf:=fun j => HW_wr.out.o.h.frozenAt j
     obtain ⟨ma,mb⟩:=HAge.out k hlt
     have j0 : (0 : Int) ≤ (k : Int):=by omega
     have j1 : (k : Int) < (b.hs.length : Int):=by omega
     cases tx : decide (b.hs[k].Age < 1125899906842624)
     ·
      have KS:=hd_ (show olderH b.hs[k] = b.hs[k] by unfold olderH;rw [if_neg (of_decide_eq_false tx)])
      go_wp2_with fail
      go_roundw
      case rel => exact ⟨k + 1,by omega,by go_num,by rw [← zhn olderH hlt KS.out];exact HW_wr⟩
      case measure => simp [intOf];omega
     ·
      have KS:=hd_ (show olderH b.hs[k] = { b.hs[k] with Age:=b.hs[k].Age + 1 } by unfold olderH;rw [if_pos (of_decide_eq_true tx)])
      go_wp2_with fail
      go_roundw
      case rel => exact ⟨k + 1,by omega,by go_num,hd_ (by have h9:=HW_wr.out.putCellH (i:=k) (j:=6) (c:=b.hs[k]) (c':={ b.hs[k] with Age:=b.hs[k].Age + 1 }) (u:=.int .i64 (b.hs[k].Age + 1)) (by decide) (zkl olderH hlt) (by decide) rfl;rw [← KS.out,zvn olderH hlt] at h9;exact h9)⟩
      case measure => simp [intOf];omega
    ·
     obtain rfl : k = b.hs.length:=by omega
     go_wp2_with fail
     clear a0 a1 a2 a3 a4 a5 a6 a7 af az
     rw [zwt] at HW_wr
     clear HML hk
     obtain ⟨wo,rfl⟩ : ∃ wo : World,wo = wr:=⟨_,rfl⟩
     have HW_wo:=HW_wr
     clear HW_wr
     go_loopw [59] (fun i wr => ∃ k : Nat,k ≤ b.cs.length∧i = .int .i64 k∧Hid (Wk 108 w wr B X ⟨(b.t + 1),b.n,b.w,mapTo fadeC b.cs k,(b.hs.map olderH),b.os⟩ L 0 A1 A2 A3 A4 p1 p2 p3 p4)) (fun i _ => b.cs.length - (intOf i).toNat)
     case atStart => exact ⟨0,Nat.zero_le _,rfl,by rw [zvv];exact HW_wo⟩
     case round =>
      obtain ⟨k,hk,rfl,HR⟩:=hrel
      have HW_wr:=HR
      clear HR
      have HML:=hd_ (zvm fadeC b.cs k)
      obtain ⟨a0,a1,a2,a3,a4,a5,a6,a7,af,az⟩:=HW_wr.out.open_
      simp only at a0 a1 a2 a3 a4 a5 a6
      rw [HML.out] at a3
      by_cases hlt : k < b.cs.length
      ·
       have j0 : (0 : Int) ≤ (k : Int):=by omega
       have j1 : (k : Int) < (b.cs.length : Int):=by omega
       obtain ⟨g,hA,hBg⟩:=HW_wr.out.o.c.headW (by rw [List.length_map,HML.out];omega)
       subst hA
       obtain ⟨c,hc⟩ : ∃ c,b.cs[k] = c:=⟨_,rfl⟩
       have hr : ((mapTo fadeC b.cs k).map Chan.cells)[k]? = some c.cells:=by rw [List.getElem?_map,zkl fadeC hlt,hc];rfl
       obtain ⟨y0,y1,y2,y3,y4,y5,y6⟩:=c
       have HRow:=hd_ hr
       have HCI:=hd_ hc
       clear hr hc
       have y6c:=HW_wr.out.o.c.cellAt HRow.out (j:=6) (by decide)
       simp only [Chan.cells,List.getElem?_cons_zero,List.getElem?_cons_succ] at y6c
       go_wp2_with fail
       rw [← HML.out] at a3
       have j2 : (k : Int) < ((mapTo fadeC b.cs k).length : Int):=by rw [HML.out];omega
       refine zxb (fun w' => kqiiissss w' X (b.t + 1) b.n b.w (some ⟨g,0,none⟩) ((mapTo fadeC b.cs k).length) p1 A2 ((b.hs.map olderH).length) p2 A3 b.os.length p3 A4 L.length p4 (kqio_ w' g (k * 7 + 6) y6)) [yF 0 69,yF 1 70,yF 2 71,yF 3 72,yF 4 73,yF 5 74,yF 6 75,yF 7 76,yF 8 77,yF 9 78,yF 10 79,yF 11 80,yF 12 81,yF 13 82,yF 14 83,yT 15 84,yF 16 85,yF 17 86] rfl (by kernel_rfl) (by kernel_rfl) (by kernel_rfl) (by kernel_rfl) (by kernel_rfl) (by kernel_rfl) ⟨a0,a1,a2,a3,a4,a5,a6,y6c⟩ (fun hHeld => ?_)
       obtain ⟨w2,hwd⟩ : ∃ wd,wr.drew = wd:=⟨_,rfl⟩
       have HW_w2 : Hid (Wk 108 w w2 B X ⟨(b.t + 1),b.n,b.w,(mapTo fadeC b.cs k),(b.hs.map olderH),b.os⟩ L 0 (some ⟨g,0,none⟩) A2 A3 A4 p1 p2 p3 p4):=hd_ (by rw [← hwd];exact HW_wr.out.drew)
       clear a0 a1 a2 a3 a4 a5 a6 a7 af az
       rw [hwd] at hHeld ⊢
       clear hwd
       obtain ⟨a0,a1,a2,a3,a4,a5,a6,a7,af,az⟩:=HW_w2.out.open_
       refine tk_ ?_
       clear y6c
       have y6c:=HW_w2.out.o.c.cellAt HRow.out (j:=6) (by decide)
       simp only [Chan.cells,List.getElem?_cons_zero,List.getElem?_cons_succ] at y6c
       have yf:=fun j => HW_w2.out.o.c.frozenAt j
       refine Sq.step rfl (by rfl) (fun K hK => ?_)
       go_simp
       refine (zma _ _).mono ?_
       rintro e' wz ⟨rfl,rfl⟩
       go_simp
       refine hK.out _ _ ⟨a0,a1,a2,a3,a4,a5,a6,y6c⟩ (fun hHeld => ?_)
       clear hK K
       refine tk_ ?_
       refine Sq.done ?_
       intro KK hKK
       go_simp
       refine hKK _ _ (NoPanic.normal ?_)
       go_wp2_with fail
       go_roundw
       case rel => exact ⟨k + 1,by omega,by go_num,hd_ (by have h9:=HW_w2.out.putCellC (i:=k) (j:=6) (c:=⟨y0,y1,y2,y3,y4,y5,y6⟩) (c':=fadeC ⟨y0,y1,y2,y3,y4,y5,y6⟩) (u:=.int .i64 (fadeF y6)) (by decide) (by rw [← HCI.out];exact zkl fadeC hlt) (by decide) rfl;simp only at h9;rw [← HCI.out,zvn fadeC hlt] at h9;exact h9)⟩
       case measure => simp [intOf];omega
      ·
       obtain rfl : k = b.cs.length:=by omega
       rw [zwt] at HW_wr
       go_wp2_with fail
       go_end0
       rw [HO.out,← HL.out]
       exact Acts.ok ⟨_,_,_,_,_,_,_,_,rfl,HW_wr.out⟩
 ·
  have HO:=hd_ (tickB_2 (b:=b) (eq_of_beq t1))
  have HW_w:=H
  clear H
  obtain ⟨a0,a1,a2,a3,a4,a5,a6,a7,af,az⟩:=HW_w.out.open_
  go_enter Tryz.func72,Tryz.ntmps72
  go_wp2_with fail
  refine (zqv _ _ B X b L A1 A2 A3 A4 p1 p2 p3 p4 2 (by decide) HW_w.out).mono ?_
  rintro e' w1 ⟨rfl,hh,ho⟩
  have HW_w1:=hd_ (HW_w.out.trans hh)
  clear hh ho
  clear a0 a1 a2 a3 a4 a5 a6 a7 af az
  obtain ⟨a0,a1,a2,a3,a4,a5,a6,a7,af,az⟩:=HW_w1.out.open_
  go_wp2_with fail
  go_end0
  rw [HO.out]
  exact Acts.no (by decide) ⟨_,_,_,_,_,_,_,_,rfl,HW_w1.out⟩
end Go.Proofs.YtdbmkfmenfcbiaaGreat

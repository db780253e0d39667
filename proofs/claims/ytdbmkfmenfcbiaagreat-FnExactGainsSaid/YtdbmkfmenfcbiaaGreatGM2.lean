/- BookKs · Merge · BookG0 · BookPi · DrawL · BookH0 · BookPs · DrawM · ApB · BookO0 · DrawMb · EvF · EventM · EvS · ScS · Wk · SBusy · ScI · Wk2 · SCopy · SWk: each text proves what its theorems say, with no conditions but theirs. -/
import Derived.Test.YtdbmkfmenfcbiaaGreatRows
import Derived.Test.YtdbmkfmenfcbiaaGreatGM1
import Derived.IntWalk
import Derived.StillTailTactics
import Derived.Test.YtdbmkfmenfcbiaaGreatGBase
import Derived.Deep.QuietTactic
import Derived.BigQuiet
namespace Go.Proofs.YtdbmkfmenfcbiaaGreat
open Go.RowKit
theorem zsc : (Tryz.prog.info? 3).map (fun i => (i.zero,i.size,i.bytes)) = some (some (.int .i64 0),1,8):=by kernel_rfl
theorem zvh {α : Type} (z : List Int) (l : List α) (f : α → Int) {k : Nat} (hk : k < l.length) : z ++ (l.take (k + 1)).map f = (z ++ (l.take k).map f) ++ [f l[k]]:=by
 rw [List.take_succ_eq_append_getElem hk,List.map_append,List.append_assoc]
 rfl
theorem zwe {α : Type} (z : List Int) (l : List α) (f : α → Int) {k : Nat} (hk : k ≤ l.length) : (z ++ (l.take k).map f).length = z.length + k:=by
 simp;omega
set_option maxRecDepth 100000 in
set_option maxHeartbeats 4000000 in
theorem zhz (bt bn bw : Int) (cs : List Chan) (hs : List Htlc) (os : List Circle) (A1 A2 A3 : Option Addr) (p1 p2 p3 : Nat) (w : World) (h60 : hs.length ≤ 60) (h20 : os.length ≤ 20) (hr : RdBook w w.heap.size A1 cs A2 hs A3 os) :
  Calls Tryz.prog 105 #[.agg #[.int .i64 bt,.int .i64 bn,.int .i64 bw,.slice A1 cs.length p1,.slice A2 hs.length p2,.slice A3 os.length p3]] w fun e w' => ∃ A cap,e = .returned (.slice A (keysOf hs os).length cap)∧Ow w' w.heap.size 3 1 (.slice A (keysOf hs os).length cap) ((keysOf hs os).map intCells)∧Below w.heap.size w w':=by
 have HH:=hd_ hr.h
 have HO:=hd_ hr.o
 clear hr
 obtain ⟨i0,hi,hz0,hz1,hz2⟩:=info_parts zsc
 have HI:=hd_ hi
 have HZ0:=hd_ hz0
 have HZ1:=hd_ hz1
 have HZ2:=hd_ hz2
 clear hi hz0 hz1 hz2
 go_enter Tryz.func105,Tryz.ntmps105
 go_wp2_with fail
 go_loopw [3,12] (fun vk i wr => ∃ (k : Nat) (B : Option Addr) (cp : Nat),k ≤ hs.length∧i = .int .i64 k∧vk = .slice B ([] ++ (hs.take k).map Htlc.Key).length cp∧Ow wr (w.heap.size + 1) 3 1 (.slice B ([] ++ (hs.take k).map Htlc.Key).length cp) (([] ++ (hs.take k).map Htlc.Key).map intCells)∧wr.heap[w.heap.size]? = some (.cells #[.int .i64 bt,.int .i64 bn,.int .i64 bw,.slice A1 cs.length p1,.slice A2 hs.length p2,.slice A3 os.length p3] 39 (0,0))∧Below w.heap.size w wr) (fun _ i _ => hs.length - (intOf i).toNat)
 case atStart =>
  refine ⟨0,_,_,Nat.zero_le _,rfl,rfl,?_,zqe (by simp) (zqk rfl),bl_⟩
  exact Ow.empty_ (by simp) (Nat.le_refl _)
 case round =>
  obtain ⟨k,B,cp,hk,rfl,rfl,how,hbox,hbw⟩:=hrel
  have hbz:=hbw.size
  obtain ⟨eh,e0,e1,e2,e3,e4,e5,ef,ezz⟩:=own6 (Below.refl wr.heap.size wr) (gz_ hbox).1 hbox
  have EH:=hd_ eh
  clear eh hbox
  have hrl : ([] ++ (hs.take k).map Htlc.Key).length ≤ 80:=by rw [zwe _ _ _ hk];simp;omega
  have NE:=hd_ (how.ne_ EH.out (by decide))
  have OB:=hd_ how.block
  have HW:=hd_ how
  clear how
  by_cases hlt : k < hs.length
  ·
   obtain ⟨b,off,rfl,hbB,c0,c1,c2,c3,c4,c5,c6⟩:=Htlc.rd (HH.out.below hbw) hlt
   have HK:=hd_ (zvh [] hs Htlc.Key hlt)
   obtain ⟨ROWS,hROWS⟩ : ∃ R,([] ++ (hs.take k).map Htlc.Key) = R:=⟨_,rfl⟩
   rw [hROWS] at hrl NE OB HW HK ⊢
   clear hROWS
   have KE:=hd_ (fun o1 o2 (w6 : World) (hgr : ((wr.alloc o1).alloc o2).grownBy w6 (Value.slice B ROWS.length cp).ownBlock) => ownG6 hgr NE.out (zqe (by simp;omega) (zqe ezz EH.out)))
   have KB:=hd_ (fun o1 o2 (w6 : World) (hgr : ((wr.alloc o1).alloc o2).grownBy w6 (Value.slice B ROWS.length cp).ownBlock) => ((hbw.alloc (Nat.le_trans (Nat.le_refl _) hbz) o1).alloc (by simp;omega) o2).grown hgr (by simp;omega) (fun k e => by have:=(OB.out k e).1;omega))
   go_wp2_with (at_builtin;refine zqy rfl _ _ _ rfl (w.heap.size + 1) 3 i0 _ 1 8 Tryz.underlying41 HI.out HZ0.out HZ1.out HZ2.out rfl (by decide) (.slice B ROWS.length cp) (ROWS.map intCells) rfl ((HW.out.alloc _).alloc _) (wr.heap.size + 1) 1 [.int .i64 hs[k].Key] 3 rfl (zqk (by first | rfl | (simp;done))) rfl (by simp [Value.oneCell']) (by rw [List.length_map];omega) (by decide) (by first | omega | (simp;omega) | (simp;done)) ?_;intro g cap' w6 how6 hgr6 hat6 hlt6;rw [List.length_map] at how6;rw [List.length_map];obtain ⟨xh,x0,x1,x2,x3,x4,x5,xf,xz⟩:=KE.out _ _ _ hgr6;have hb6:=KB.out _ _ _ hgr6;have XH:=hd_ xh;have O6:=hd_ how6;clear xh how6 hgr6 hat6)
   go_roundw
   case rel =>
    refine ⟨k + 1,some ⟨g,0,none⟩,cap',by omega,by go_num,by rw [HK.out,List.length_append];rfl,?_,XH.out,hb6⟩
    rw [HK.out,List.map_append,List.length_append]
    exact O6.out
   case measure => simp [intOf];omega
  ·
   obtain rfl : k = hs.length:=by omega
   rw [List.take_length,List.nil_append] at HW hrl ⊢
   rw [List.length_map] at hrl
   go_wp2_with fail
   obtain ⟨wo,rfl⟩ : ∃ wo : World,wo = wr:=⟨_,rfl⟩
   go_loopw [3,25] (fun vk i wr => ∃ (k : Nat) (B : Option Addr) (cp : Nat),k ≤ os.length∧i = .int .i64 k∧vk = .slice B ((hs.map Htlc.Key) ++ (os.take k).map Circle.Key).length cp∧Ow wr (w.heap.size + 1) 3 1 (.slice B ((hs.map Htlc.Key) ++ (os.take k).map Circle.Key).length cp) (((hs.map Htlc.Key) ++ (os.take k).map Circle.Key).map intCells)∧wr.heap[w.heap.size]? = some (.cells #[.int .i64 bt,.int .i64 bn,.int .i64 bw,.slice A1 cs.length p1,.slice A2 hs.length p2,.slice A3 os.length p3] 39 (0,0))∧Below w.heap.size w wr) (fun _ i _ => os.length - (intOf i).toNat)
   case atStart => exact ⟨0,B,cp,Nat.zero_le _,rfl,by simp,by simpa using HW.out,EH.out,hbw⟩
   case round =>
    obtain ⟨k,B,cp,hk,rfl,rfl,how,hbox,hbw⟩:=hrel
    have hbz:=hbw.size
    obtain ⟨eh,e0,e1,e2,e3,e4,e5,ef,ezz⟩:=own6 (Below.refl wr.heap.size wr) (gz_ hbox).1 hbox
    have EH:=hd_ eh
    clear eh hbox
    have hrl : ((hs.map Htlc.Key) ++ (os.take k).map Circle.Key).length ≤ 80:=by rw [zwe _ _ _ hk];rw [List.length_map];omega
    have NE:=hd_ (how.ne_ EH.out (by decide))
    have OB:=hd_ how.block
    have HW:=hd_ how
    clear how
    by_cases hlt : k < os.length
    ·
     obtain ⟨b,off,rfl,hbB,c0,c1,c2,c3,c4⟩:=Circle.rd (HO.out.below hbw) hlt
     have HK:=hd_ (zvh (hs.map Htlc.Key) os Circle.Key hlt)
     obtain ⟨ROWS,hROWS⟩ : ∃ R,((hs.map Htlc.Key) ++ (os.take k).map Circle.Key) = R:=⟨_,rfl⟩
     rw [hROWS] at hrl NE OB HW HK ⊢
     clear hROWS
     have KE:=hd_ (fun o1 o2 (w6 : World) (hgr : ((wr.alloc o1).alloc o2).grownBy w6 (Value.slice B ROWS.length cp).ownBlock) => ownG6 hgr NE.out (zqe (by simp;omega) (zqe ezz EH.out)))
     have KB:=hd_ (fun o1 o2 (w6 : World) (hgr : ((wr.alloc o1).alloc o2).grownBy w6 (Value.slice B ROWS.length cp).ownBlock) => ((hbw.alloc (Nat.le_trans (Nat.le_refl _) hbz) o1).alloc (by simp;omega) o2).grown hgr (by simp;omega) (fun k e => by have:=(OB.out k e).1;omega))
     go_wp2_with (at_builtin;refine zqy rfl _ _ _ rfl (w.heap.size + 1) 3 i0 _ 1 8 Tryz.underlying41 HI.out HZ0.out HZ1.out HZ2.out rfl (by decide) (.slice B ROWS.length cp) (ROWS.map intCells) rfl ((HW.out.alloc _).alloc _) (wr.heap.size + 1) 1 [.int .i64 os[k].Key] 3 rfl (zqk (by first | rfl | (simp;done))) rfl (by simp [Value.oneCell']) (by rw [List.length_map];omega) (by decide) (by first | omega | (simp;omega) | (simp;done)) ?_;intro g cap' w6 how6 hgr6 hat6 hlt6;rw [List.length_map] at how6;rw [List.length_map];obtain ⟨xh,x0,x1,x2,x3,x4,x5,xf,xz⟩:=KE.out _ _ _ hgr6;have hb6:=KB.out _ _ _ hgr6;have XH:=hd_ xh;have O6:=hd_ how6;clear xh how6 hgr6 hat6)
     go_roundw
     case rel =>
      refine ⟨k + 1,some ⟨g,0,none⟩,cap',by omega,by go_num,by rw [HK.out,List.length_append];rfl,?_,XH.out,hb6⟩
      rw [HK.out,List.map_append,List.length_append]
      exact O6.out
     case measure => simp [intOf];omega
    ·
     obtain rfl : k = os.length:=by omega
     have hkeys : (hs.map Htlc.Key) ++ (os.take os.length).map Circle.Key = keysOf hs os:=by rw [List.take_length];rfl
     rw [hkeys] at HW ⊢
     clear hkeys
     go_wp2_with fail
     go_ret
     exact ⟨_,_,rfl,HW.out.more (by omega),bl_⟩
end Go.Proofs.YtdbmkfmenfcbiaaGreat
namespace Go.Proofs.YtdbmkfmenfcbiaaGreat
open Go.RowKit
theorem zkm {k c k' c' : Int} : lessB k c k' c' = true ↔ k < k' ∨ (k = k'∧c < c'):=by
 simp [lessB]
theorem less_eq {k c k' c' : Int} (h1 : lessB k c k' c' = false) (h2 : lessB k' c' k c = false) : k = k'∧c = c':=by
 rw [← Bool.not_eq_true,zkm] at h1 h2
 omega
def lessL (x y : Line) : Prop:=lessB x.Kind x.Ch y.Kind y.Ch = true
theorem zpd {x y : Line} : lessL x y ↔ x.Kind < y.Kind ∨ (x.Kind = y.Kind∧x.Ch < y.Ch):=zkm
theorem zhu {x y z : Line} (h1 : lessL x y) (h2 : lessL y z) : lessL x z:=by
 rw [zpd] at *
 omega
def lineOk (x : Line) : Bool:=accB x.Kind x.Ch && !(x.Amt == 0) && rangeB x.Amt
theorem zkt : ∀ (l : List Line) (s : Int),l.foldl (fun s x => s + x.Amt) s = s + lineSum l
 | [],s => by simp [lineSum]
 | x :: l,s => by
  unfold lineSum
  rw [List.foldl_cons,List.foldl_cons,zkt l,zkt l (0 + x.Amt)]
  omega
theorem zxl (x : Line) (l : List Line) : lineSum (x :: l) = x.Amt + lineSum l:=by
 show (x :: l).foldl (fun s x => s + x.Amt) 0 = _
 rw [List.foldl_cons,zkt]
 omega
def mergeF : List Line → List Line → Option (List Line)
 | [],[] => some []
 | x :: a,[] => (mergeF a []).map (x :: ·)
 | [],y :: b => (mergeF [] b).map (y :: ·)
 | x :: a,y :: b =>
  if lessB x.Kind x.Ch y.Kind y.Ch = true then (mergeF a (y :: b)).map (x :: ·)
  else if lessB y.Kind y.Ch x.Kind x.Ch = true then (mergeF (x :: a) b).map (y :: ·)
  else if rangeB (x.Amt + y.Amt) = true then (if x.Amt + y.Amt = 0 then mergeF a b else (mergeF a b).map (⟨x.Kind,x.Ch,x.Amt + y.Amt⟩ :: ·))
  else none
termination_by a b => a.length + b.length
def bal (k c : Int) : List Line → Int
 | [] => 0
 | x :: l => (if x.Kind = k∧x.Ch = c then x.Amt else 0) + bal k c l
structure Merged (a b r : List Line) : Prop where
 sum : lineSum r = lineSum a + lineSum b
 len : r.length ≤ a.length + b.length
 bal : ∀ k c,bal k c r = bal k c a + bal k c b
 ok : (∀ x ∈ a,lineOk x = true) → (∀ x ∈ b,lineOk x = true) → ∀ x ∈ r,lineOk x = true
 low : ∀ p,(∀ x ∈ a,lessL p x) → (∀ x ∈ b,lessL p x) → ∀ x ∈ r,lessL p x
 sorted : a.Pairwise lessL → b.Pairwise lessL → r.Pairwise lessL
theorem zvj : ∀ (a b r : List Line),mergeF a b = some r → Merged a b r
 | [],[],r,h => by
  rw [mergeF] at h
  cases h
  exact ⟨rfl,Nat.le_refl _,fun _ _ => rfl,by simp,by simp,by simp⟩
 | x :: a,[],r,h => by
  rw [mergeF,Option.map_eq_some_iff] at h
  obtain ⟨r',h',rfl⟩:=h
  have m:=zvj a [] r' h'
  refine ⟨by rw [zxl,zxl,m.sum];omega,by have:=m.len;simp at this ⊢;omega,fun k c => by simp only [bal,m.bal k c];omega,?_,?_,?_⟩
  ·
   intro h1 h2 y hy
   rcases List.mem_cons.1 hy with rfl | hy
   ·
    exact h1 _ (by simp)
   ·
    exact m.ok (fun z hz => h1 z (by simp [hz])) h2 y hy
  ·
   intro p h1 h2 y hy
   rcases List.mem_cons.1 hy with rfl | hy
   ·
    exact h1 _ (by simp)
   ·
    exact m.low p (fun z hz => h1 z (by simp [hz])) h2 y hy
  ·
   intro h1 h2
   rw [List.pairwise_cons] at h1 ⊢
   exact ⟨m.low x h1.1 (by simp),m.sorted h1.2 h2⟩
 | [],y :: b,r,h => by
  rw [mergeF,Option.map_eq_some_iff] at h
  obtain ⟨r',h',rfl⟩:=h
  have m:=zvj [] b r' h'
  refine ⟨by rw [zxl,zxl,m.sum];omega,by have:=m.len;simp at this ⊢;omega,fun k c => by simp only [bal,m.bal k c];omega,?_,?_,?_⟩
  ·
   intro h1 h2 z hz
   rcases List.mem_cons.1 hz with rfl | hz
   ·
    exact h2 _ (by simp)
   ·
    exact m.ok h1 (fun z hz => h2 z (by simp [hz])) z hz
  ·
   intro p h1 h2 z hz
   rcases List.mem_cons.1 hz with rfl | hz
   ·
    exact h2 _ (by simp)
   ·
    exact m.low p h1 (fun z hz => h2 z (by simp [hz])) z hz
  ·
   intro h1 h2
   rw [List.pairwise_cons] at h2 ⊢
   exact ⟨m.low y (by simp) h2.1,m.sorted h1 h2.2⟩
 | x :: a,y :: b,r,h => by
  rw [mergeF] at h
  by_cases c1 : lessB x.Kind x.Ch y.Kind y.Ch = true
  ·
   rw [if_pos c1,Option.map_eq_some_iff] at h
   obtain ⟨r',h',rfl⟩:=h
   have m:=zvj a (y :: b) r' h'
   refine ⟨by rw [zxl,zxl x a,m.sum];omega,by have:=m.len;simp at this ⊢;omega,fun k c => by simp only [bal,m.bal k c];omega,?_,?_,?_⟩
   ·
    intro h1 h2 z hz
    rcases List.mem_cons.1 hz with rfl | hz
    ·
     exact h1 _ (by simp)
    ·
     exact m.ok (fun z hz => h1 z (by simp [hz])) h2 z hz
   ·
    intro p h1 h2 z hz
    rcases List.mem_cons.1 hz with rfl | hz
    ·
     exact h1 _ (by simp)
    ·
     exact m.low p (fun z hz => h1 z (by simp [hz])) h2 z hz
   ·
    intro h1 h2
    have h2':=h2
    rw [List.pairwise_cons] at h1 h2 ⊢
    refine ⟨m.low x h1.1 (fun z hz => ?_),m.sorted h1.2 h2'⟩
    rcases List.mem_cons.1 hz with rfl | hz
    ·
     exact c1
    ·
     exact zhu c1 (h2.1 z hz)
  ·
   rw [if_neg c1] at h
   by_cases c2 : lessB y.Kind y.Ch x.Kind x.Ch = true
   ·
    rw [if_pos c2,Option.map_eq_some_iff] at h
    obtain ⟨r',h',rfl⟩:=h
    have m:=zvj (x :: a) b r' h'
    refine ⟨by rw [zxl,zxl y b,m.sum];omega,by have:=m.len;simp at this ⊢;omega,fun k c => by simp only [bal,m.bal k c];omega,?_,?_,?_⟩
    ·
     intro h1 h2 z hz
     rcases List.mem_cons.1 hz with rfl | hz
     ·
      exact h2 _ (by simp)
     ·
      exact m.ok h1 (fun z hz => h2 z (by simp [hz])) z hz
    ·
     intro p h1 h2 z hz
     rcases List.mem_cons.1 hz with rfl | hz
     ·
      exact h2 _ (by simp)
     ·
      exact m.low p h1 (fun z hz => h2 z (by simp [hz])) z hz
    ·
     intro h1 h2
     have h1':=h1
     rw [List.pairwise_cons] at h1 h2 ⊢
     refine ⟨m.low y (fun z hz => ?_) h2.1,m.sorted h1' h2.2⟩
     rcases List.mem_cons.1 hz with rfl | hz
     ·
      exact c2
     ·
      exact zhu c2 (h1.1 z hz)
   ·
    rw [if_neg c2] at h
    obtain ⟨e1,e2⟩:=less_eq (Bool.eq_false_iff.2 c1) (Bool.eq_false_iff.2 c2)
    by_cases c3 : rangeB (x.Amt + y.Amt) = true
    ·
     rw [if_pos c3] at h
     by_cases c4 : x.Amt + y.Amt = 0
     ·
      rw [if_pos c4] at h
      have m:=zvj a b r h
      refine ⟨by rw [zxl,zxl,m.sum];omega,by have:=m.len;simp at this ⊢;omega,fun k c => ?_,?_,?_,?_⟩
      ·
       simp only [bal,m.bal k c,e1,e2]
       split <;> omega
      ·
       intro h1 h2
       exact m.ok (fun z hz => h1 z (by simp [hz])) (fun z hz => h2 z (by simp [hz]))
      ·
       intro p h1 h2
       exact m.low p (fun z hz => h1 z (by simp [hz])) (fun z hz => h2 z (by simp [hz]))
      ·
       intro h1 h2
       rw [List.pairwise_cons] at h1 h2
       exact m.sorted h1.2 h2.2
     ·
      rw [if_neg c4,Option.map_eq_some_iff] at h
      obtain ⟨r',h',rfl⟩:=h
      have m:=zvj a b r' h'
      refine ⟨by rw [zxl,zxl,zxl,m.sum];simp only;omega,by have:=m.len;simp at this ⊢;omega,fun k c => ?_,?_,?_,?_⟩
      ·
       simp only [bal,m.bal k c,e1,e2]
       split <;> omega
      ·
       intro h1 h2 z hz
       rcases List.mem_cons.1 hz with rfl | hz
       ·
        have:=h1 x (by simp)
        unfold lineOk at this ⊢
        simp only [Bool.and_eq_true] at this ⊢
        exact ⟨⟨this.1.1,by simp [c4]⟩,c3⟩
       ·
        exact m.ok (fun z hz => h1 z (by simp [hz])) (fun z hz => h2 z (by simp [hz])) z hz
      ·
       intro p h1 h2 z hz
       rcases List.mem_cons.1 hz with rfl | hz
       ·
        exact h1 x (by simp)
       ·
        exact m.low p (fun z hz => h1 z (by simp [hz])) (fun z hz => h2 z (by simp [hz])) z hz
      ·
       intro h1 h2
       rw [List.pairwise_cons] at h1 h2 ⊢
       refine ⟨m.low _ h1.1 (fun z hz => ?_),m.sorted h1.2 h2.2⟩
       have:=zpd.1 (h2.1 z hz)
       rw [zpd]
       simp only
       omega
    ·
     rw [if_neg c3] at h
     cases h
termination_by a b => a.length + b.length
/-! ### One posting posted; postings posted one after the other -/
/-! ### The past of an account -/
def pastL (k c : Int) : List Line → Int → List Int → Option (Int × List Int)
 | [],s,o => some (s,o)
 | x :: l,s,o => if x.Kind = k∧x.Ch = c then (if rangeB (s + x.Amt) = true then pastL k c l (s + x.Amt) (o ++ [s + x.Amt]) else none) else pastL k c l s o
def pastP (k c : Int) : List (Int × List Line) → Int → List Int → Option (List Int)
 | [],_,o => some o
 | p :: ps,s,o => if postingB p.1 p.2 = true then (match pastL k c p.2 s o with | none => none | some x => pastP k c ps x.1 x.2) else none
def past (ps : List (Int × List Line)) (k c : Int) : List Int:=if accB k c = true then (pastP k c ps 0 []).getD [] else []
end Go.Proofs.YtdbmkfmenfcbiaaGreat
namespace Go.Proofs.YtdbmkfmenfcbiaaGreat
open Go.RowKit

end Go.Proofs.YtdbmkfmenfcbiaaGreat
namespace Go.Proofs.YtdbmkfmenfcbiaaGreat
open Go.RowKit
theorem htlcB_i (cs : List Chan) (h : Htlc) : htlcB cs h = (amtB h.AmtIn && !decide (h.AmtOut < 1) && !decide (h.AmtIn < h.AmtOut) && amtB h.Age && twoB cs h.In h.Out):=by
 rw [Bool.eq_iff_iff]
 simp only [htlcB,Bool.and_eq_true,zxu,zji,Bool.not_eq_true',decide_eq_false_iff_not]
 constructor
 ·
  rintro ⟨⟨⟨h1,h2⟩,h3⟩,h4⟩;exact ⟨⟨⟨⟨h2,by omega⟩,by omega⟩,h4⟩,h1⟩
 ·
  rintro ⟨⟨⟨⟨h2,h3⟩,h5⟩,h4⟩,h1⟩;exact ⟨⟨⟨h1,h2⟩,by omega⟩,h4⟩
theorem htlcB_s (cs : List Chan) (h : Htlc) : htlcB cs h = (twoB cs h.In h.Out && amtB h.AmtIn && amtB h.AmtOut && !decide (h.AmtOut < 1) && !decide (h.AmtIn < h.AmtOut) && amtB h.Age):=by
 rw [Bool.eq_iff_iff]
 simp only [htlcB,Bool.and_eq_true,zxu,zji,Bool.not_eq_true',decide_eq_false_iff_not]
 constructor
 ·
  rintro ⟨⟨⟨h1,h2⟩,h3⟩,h4⟩;exact ⟨⟨⟨⟨⟨h1,h2⟩,by omega⟩,by omega⟩,by omega⟩,h4⟩
 ·
  rintro ⟨⟨⟨⟨⟨h1,h2⟩,h3⟩,h5⟩,h6⟩,h4⟩;exact ⟨⟨⟨h1,h2⟩,by omega⟩,h4⟩
theorem circB_i (cs : List Chan) (c : Circle) : circB cs c = (amtB c.Amt && !decide (c.Amt < 1) && amtB c.Fee && twoB cs c.From c.To):=by
 rw [Bool.eq_iff_iff]
 simp only [circB,Bool.and_eq_true,zxu,zji,Bool.not_eq_true',decide_eq_false_iff_not]
 constructor
 ·
  rintro ⟨⟨h1,h2⟩,h3⟩;exact ⟨⟨⟨by omega,by omega⟩,h3⟩,h1⟩
 ·
  rintro ⟨⟨⟨h2,h4⟩,h3⟩,h1⟩;exact ⟨⟨h1,by omega⟩,h3⟩
theorem circB_s (cs : List Chan) (c : Circle) : circB cs c = (twoB cs c.From c.To && amtB c.Amt && !decide (c.Amt < 1) && amtB c.Fee):=by
 rw [circB_i]
 cases twoB cs c.From c.To <;> simp
theorem keyAt_s {ks : List Int} {i : Nat} (h : i < ks.length) : keyAt ks i = (!decide (ks[i] < 1) && !decide (1000000 < ks[i]) && !hasB (ks.take i) ks[i]):=by
 rw [zts h]
 congr 1
 rw [Bool.eq_iff_iff]
 simp only [zji,Bool.and_eq_true,Bool.not_eq_true',decide_eq_false_iff_not]
 omega
def partsOkB (cs : List Chan) (hs : List Htlc) (os : List Circle) : Bool:=decide (hs.length ≤ 60) && decide (os.length ≤ 20) && partsB cs hs os
theorem zxq {cs : List Chan} {hs : List Htlc} {os : List Circle} (h60 : hs.length ≤ 60) (h20 : os.length ≤ 20) : partsOkB cs hs os = partsB cs hs os:=by simp [partsOkB,h60,h20]
set_option maxRecDepth 100000 in
set_option maxHeartbeats 8000000 in
theorem zmy (bt bn bw : Int) (cs : List Chan) (hs : List Htlc) (os : List Circle) (A1 A2 A3 : Option Addr) (p1 p2 p3 : Nat) (w : World) (hc : cs.length ≤ 20) (h60 : hs.length ≤ 60) (h20 : os.length ≤ 20) (hr : RdBook w w.heap.size A1 cs A2 hs A3 os) :
  Calls Tryz.prog 83 #[.agg #[.int .i64 bt,.int .i64 bn,.int .i64 bw,.slice A1 cs.length p1,.slice A2 hs.length p2,.slice A3 os.length p3]] w fun e w' => e = .returned (.bool (partsOkB cs hs os))∧Below w.heap.size w w':=by
 have HR:=hd_ hr
 have HH:=hd_ hr.h
 have HO:=hd_ hr.o
 clear hr
 obtain ⟨i0,hi,hz0,hz1,hz2⟩:=info_parts zsc
 have HI:=hd_ hi
 have HZ0:=hd_ hz0
 have HZ1:=hd_ hz1
 have HZ2:=hd_ hz2
 clear hi hz0 hz1 hz2
 go_enter Tryz.func83,Tryz.ntmps83
 go_wp2_with fail
 go_loopw [4,25] (fun vk i wr => ∃ (k : Nat) (B : Option Addr) (cp : Nat),k ≤ hs.length∧i = .int .i64 k∧vk = .slice B ([] ++ (hs.take k).map Htlc.Key).length cp∧Ow wr (w.heap.size + 1) 3 1 (.slice B ([] ++ (hs.take k).map Htlc.Key).length cp) (([] ++ (hs.take k).map Htlc.Key).map intCells)∧Hid ((hs.take k).all (htlcB cs) = true)∧wr.heap[w.heap.size]? = some (.cells #[.int .i64 bt,.int .i64 bn,.int .i64 bw,.slice A1 cs.length p1,.slice A2 hs.length p2,.slice A3 os.length p3] 39 (0,0))∧Below w.heap.size w wr) (fun _ i _ => hs.length - (intOf i).toNat)
 case atStart => exact ⟨0,none,0,Nat.zero_le _,rfl,rfl,Ow.nil_,hd_ rfl,zqk rfl,bl_⟩
 case round =>
  obtain ⟨k,B,cp,hk,rfl,rfl,how,HA,hbox,hbw⟩:=hrel
  have hbz:=hbw.size
  obtain ⟨eh,e0,e1,e2,e3,e4,e5,ef,ezz⟩:=own6 (Below.refl wr.heap.size wr) (gz_ hbox).1 hbox
  have EH:=hd_ eh
  clear eh hbox
  have hrl : ([] ++ (hs.take k).map Htlc.Key).length ≤ 80:=by rw [zwe _ _ _ hk];simp;omega
  have NE:=hd_ (how.ne_ EH.out (by decide))
  have OB:=hd_ how.block
  have HW:=hd_ how
  clear how
  by_cases hlt : k < hs.length
  ·
   obtain ⟨b,off,rfl,hbB,c0,c1,c2,c3,c4,c5,c6⟩:=Htlc.rd (HH.out.below hbw) hlt
   have HK:=hd_ (zvh [] hs Htlc.Key hlt)
   obtain ⟨ROWS,hROWS⟩ : ∃ R,([] ++ (hs.take k).map Htlc.Key) = R:=⟨_,rfl⟩
   rw [hROWS] at hrl NE OB HW HK ⊢
   clear hROWS
   have hat:=htlcB_i cs hs[k]
   cases ha : amtB hs[k].AmtIn
   ·
    skip
    have HBAD:=hd_ (show htlcB cs hs[k] = false by rw [hat];simp [ha])
    clear hat
    go_wp2_with (go_at_call 50;refine (zqn _ _).mono ?_;rintro e w' ⟨rfl,rfl⟩)
    go_ret
    exact ⟨zqh (by rw [zxq h60 h20];exact (zjo hlt HBAD.out).symm),bl_⟩
   ·
    skip
    cases hb : decide (hs[k].AmtOut < 1)
    ·
     skip
     cases hd : decide (hs[k].AmtIn < hs[k].AmtOut)
     ·
      skip
      cases he : amtB hs[k].Age
      ·
       skip
       have HBAD:=hd_ (show htlcB cs hs[k] = false by rw [hat];simp [ha,hb,hd,he])
       clear hat
       go_wp2_with (go_at_call 50;refine (zqn _ _).mono ?_;rintro e w' ⟨rfl,rfl⟩)
       go_ret
       exact ⟨zqh (by rw [zxq h60 h20];exact (zjo hlt HBAD.out).symm),bl_⟩
      ·
       skip
       cases ht : twoB cs hs[k].In hs[k].Out
       ·
        have HT:=hd_ ht
        clear ht
        have HBAD:=hd_ (show htlcB cs hs[k] = false by rw [hat];simp [ha,hb,hd,he,HT.out])
        clear hat
        go_wp2_with (go_at_call 50;refine (zqn _ _).mono ?_;rintro e w' ⟨rfl,rfl⟩)
        refine (ztp bt bn bw cs hs os _ _ _ _ _ _ hs[k].In hs[k].Out _ w.heap.size (zqe ezz EH.out) (by omega) ((HR.out.below (bl_)).more (by first | omega | (simp;omega) | (simp;done)))).mono ?_
        rintro e w5 ⟨rfl,hb5⟩
        have z5:=hb5.size
        try simp at z5
        rw [HT.out]
        go_wp2_with fail
        go_ret
        exact ⟨zqh (by rw [zxq h60 h20];exact (zjo hlt HBAD.out).symm),bl_⟩
       ·
        have HT:=hd_ ht
        clear ht
        have HGOOD:=hd_ (show htlcB cs hs[k] = true by rw [hat];simp [ha,hb,hd,he,HT.out])
        clear hat
        go_wp2_with (go_at_call 50;refine (zqn _ _).mono ?_;rintro e w' ⟨rfl,rfl⟩)
        refine (ztp bt bn bw cs hs os _ _ _ _ _ _ hs[k].In hs[k].Out _ w.heap.size (zqe ezz EH.out) (by omega) ((HR.out.below (bl_)).more (by first | omega | (simp;omega) | (simp;done)))).mono ?_
        rintro e w5 ⟨rfl,hb5⟩
        have z5:=hb5.size
        try simp at z5
        rw [HT.out]
        obtain ⟨lh,l0,l1,l2,l3,l4,l5,l6,lf,lz⟩:=own7 (g:=wr.heap.size) hb5 (by first | omega | (simp;omega) | (simp;done)) (hp_)
        obtain ⟨rh,r0,r1,r2,r3,r4,r5,rf,rz⟩:=own6 hb5 (by first | omega | (simp;omega) | (simp;done)) (zqe ezz EH.out)
        have RH:=hd_ rh
        have hbw5 : Below w.heap.size w w5:=bl_
        have hbz5:=hbw5.size
        have HW5:=hd_ ((HW.out.alloc _).below hb5)
        have KE:=hd_ (fun o2 (w6 : World) (hgr : (w5.alloc o2).grownBy w6 (Value.slice B ROWS.length cp).ownBlock) => ownG6 hgr NE.out (zqe rz RH.out))
        have KB:=hd_ (fun o2 (w6 : World) (hgr : (w5.alloc o2).grownBy w6 (Value.slice B ROWS.length cp).ownBlock) => (hbw5.alloc hbz5 o2).grown hgr (by simp;omega) (fun k e => by have:=(OB.out k e).1;omega))
        clear rh lh hb5
        go_wp2_with (at_builtin;refine zqy rfl _ _ _ rfl (w.heap.size + 1) 3 i0 _ 1 8 Tryz.underlying41 HI.out HZ0.out HZ1.out HZ2.out rfl (by decide) (.slice B ROWS.length cp) (ROWS.map intCells) rfl (HW5.out.alloc _) w5.heap.size 1 [.int .i64 hs[k].Key] 3 rfl (zqk (by first | rfl | (simp;done))) rfl (by simp [Value.oneCell']) (by rw [List.length_map];omega) (by decide) (by first | omega | (simp;omega) | (simp;done)) ?_;intro g cap' w6 how6 hgr6 hat6 hlt6;rw [List.length_map] at how6;rw [List.length_map];obtain ⟨xh,x0,x1,x2,x3,x4,x5,xf,xz⟩:=KE.out _ _ hgr6;have hb6:=KB.out _ _ hgr6;have XH:=hd_ xh;have O6:=hd_ how6;clear xh how6 hgr6 hat6)
        go_roundw
        case rel =>
         refine ⟨k + 1,some ⟨g,0,none⟩,cap',by omega,by go_num,by rw [HK.out,List.length_append];rfl,?_,hd_ (by rw [zxr hs _ hlt,HA.out,HGOOD.out];rfl),XH.out,hb6⟩
         rw [HK.out,List.map_append,List.length_append]
         exact O6.out
        case measure => simp [intOf];omega
     ·
      skip
      have HBAD:=hd_ (show htlcB cs hs[k] = false by rw [hat];simp [ha,hb,hd])
      clear hat
      go_wp2_with (go_at_call 50;refine (zqn _ _).mono ?_;rintro e w' ⟨rfl,rfl⟩)
      go_ret
      exact ⟨zqh (by rw [zxq h60 h20];exact (zjo hlt HBAD.out).symm),bl_⟩
    ·
     skip
     have HBAD:=hd_ (show htlcB cs hs[k] = false by rw [hat];simp [ha,hb])
     clear hat
     go_wp2_with (go_at_call 50;refine (zqn _ _).mono ?_;rintro e w' ⟨rfl,rfl⟩)
     go_ret
     exact ⟨zqh (by rw [zxq h60 h20];exact (zjo hlt HBAD.out).symm),bl_⟩
  ·
   obtain rfl : k = hs.length:=by omega
   have ha:=HA.out
   rw [List.take_length] at ha
   have HALL1:=hd_ ha
   clear ha HA
   rw [List.take_length,List.nil_append] at HW hrl ⊢
   rw [List.length_map] at hrl
   go_wp2_with fail
   obtain ⟨wo,rfl⟩ : ∃ wo : World,wo = wr:=⟨_,rfl⟩
   go_loopw [4,69] (fun vk i wr => ∃ (k : Nat) (B : Option Addr) (cp : Nat),k ≤ os.length∧i = .int .i64 k∧vk = .slice B ((hs.map Htlc.Key) ++ (os.take k).map Circle.Key).length cp∧Ow wr (w.heap.size + 1) 3 1 (.slice B ((hs.map Htlc.Key) ++ (os.take k).map Circle.Key).length cp) (((hs.map Htlc.Key) ++ (os.take k).map Circle.Key).map intCells)∧Hid ((os.take k).all (circB cs) = true)∧wr.heap[w.heap.size]? = some (.cells #[.int .i64 bt,.int .i64 bn,.int .i64 bw,.slice A1 cs.length p1,.slice A2 hs.length p2,.slice A3 os.length p3] 39 (0,0))∧Below w.heap.size w wr) (fun _ i _ => os.length - (intOf i).toNat)
   case atStart => exact ⟨0,B,cp,Nat.zero_le _,rfl,by simp,by simpa using HW.out,hd_ rfl,EH.out,hbw⟩
   case round =>
    obtain ⟨k,B,cp,hk,rfl,rfl,how,HA,hbox,hbw⟩:=hrel
    have hbz:=hbw.size
    obtain ⟨eh,e0,e1,e2,e3,e4,e5,ef,ezz⟩:=own6 (Below.refl wr.heap.size wr) (gz_ hbox).1 hbox
    have EH:=hd_ eh
    clear eh hbox
    have hrl : ((hs.map Htlc.Key) ++ (os.take k).map Circle.Key).length ≤ 80:=by rw [zwe _ _ _ hk];rw [List.length_map];omega
    have NE:=hd_ (how.ne_ EH.out (by decide))
    have OB:=hd_ how.block
    have HW:=hd_ how
    clear how
    by_cases hlt : k < os.length
    ·
     obtain ⟨b,off,rfl,hbB,c0,c1,c2,c3,c4⟩:=Circle.rd (HO.out.below hbw) hlt
     have HK:=hd_ (zvh (hs.map Htlc.Key) os Circle.Key hlt)
     obtain ⟨ROWS,hROWS⟩ : ∃ R,((hs.map Htlc.Key) ++ (os.take k).map Circle.Key) = R:=⟨_,rfl⟩
     rw [hROWS] at hrl NE OB HW HK ⊢
     clear hROWS
     have hat:=circB_i cs os[k]
     cases ha : amtB os[k].Amt
     ·
      skip
      have HBAD:=hd_ (show circB cs os[k] = false by rw [hat];simp [ha])
      clear hat
      go_wp2_with (go_at_call 50;refine (zqn _ _).mono ?_;rintro e w' ⟨rfl,rfl⟩)
      go_ret
      exact ⟨zqh (by rw [zxq h60 h20];exact (zkj hlt HBAD.out).symm),bl_⟩
     ·
      skip
      cases hb : decide (os[k].Amt < 1)
      ·
       skip
       cases he : amtB os[k].Fee
       ·
        skip
        have HBAD:=hd_ (show circB cs os[k] = false by rw [hat];simp [ha,hb,he])
        clear hat
        go_wp2_with (go_at_call 50;refine (zqn _ _).mono ?_;rintro e w' ⟨rfl,rfl⟩)
        go_ret
        exact ⟨zqh (by rw [zxq h60 h20];exact (zkj hlt HBAD.out).symm),bl_⟩
       ·
        skip
        cases ht : twoB cs os[k].From os[k].To
        ·
         have HT:=hd_ ht
         clear ht
         have HBAD:=hd_ (show circB cs os[k] = false by rw [hat];simp [ha,hb,he,HT.out])
         clear hat
         go_wp2_with (go_at_call 50;refine (zqn _ _).mono ?_;rintro e w' ⟨rfl,rfl⟩)
         refine (ztp bt bn bw cs hs os _ _ _ _ _ _ os[k].From os[k].To _ w.heap.size (zqe ezz EH.out) (by omega) ((HR.out.below (bl_)).more (by first | omega | (simp;omega) | (simp;done)))).mono ?_
         rintro e w5 ⟨rfl,hb5⟩
         have z5:=hb5.size
         try simp at z5
         rw [HT.out]
         go_wp2_with fail
         go_ret
         exact ⟨zqh (by rw [zxq h60 h20];exact (zkj hlt HBAD.out).symm),bl_⟩
        ·
         have HT:=hd_ ht
         clear ht
         have HGOOD:=hd_ (show circB cs os[k] = true by rw [hat];simp [ha,hb,he,HT.out])
         clear hat
         go_wp2_with (go_at_call 50;refine (zqn _ _).mono ?_;rintro e w' ⟨rfl,rfl⟩)
         refine (ztp bt bn bw cs hs os _ _ _ _ _ _ os[k].From os[k].To _ w.heap.size (zqe ezz EH.out) (by omega) ((HR.out.below (bl_)).more (by first | omega | (simp;omega) | (simp;done)))).mono ?_
         rintro e w5 ⟨rfl,hb5⟩
         have z5:=hb5.size
         try simp at z5
         rw [HT.out]
         obtain ⟨lh,l0,l1,l2,l3,l4,lf,lz⟩:=own5 (g:=wr.heap.size) hb5 (by first | omega | (simp;omega) | (simp;done)) (hp_)
         obtain ⟨rh,r0,r1,r2,r3,r4,r5,rf,rz⟩:=own6 hb5 (by first | omega | (simp;omega) | (simp;done)) (zqe ezz EH.out)
         have RH:=hd_ rh
         have hbw5 : Below w.heap.size w w5:=bl_
         have hbz5:=hbw5.size
         have HW5:=hd_ ((HW.out.alloc _).below hb5)
         have KE:=hd_ (fun o2 (w6 : World) (hgr : (w5.alloc o2).grownBy w6 (Value.slice B ROWS.length cp).ownBlock) => ownG6 hgr NE.out (zqe rz RH.out))
         have KB:=hd_ (fun o2 (w6 : World) (hgr : (w5.alloc o2).grownBy w6 (Value.slice B ROWS.length cp).ownBlock) => (hbw5.alloc hbz5 o2).grown hgr (by simp;omega) (fun k e => by have:=(OB.out k e).1;omega))
         clear rh lh hb5
         go_wp2_with (at_builtin;refine zqy rfl _ _ _ rfl (w.heap.size + 1) 3 i0 _ 1 8 Tryz.underlying41 HI.out HZ0.out HZ1.out HZ2.out rfl (by decide) (.slice B ROWS.length cp) (ROWS.map intCells) rfl (HW5.out.alloc _) w5.heap.size 1 [.int .i64 os[k].Key] 3 rfl (zqk (by first | rfl | (simp;done))) rfl (by simp [Value.oneCell']) (by rw [List.length_map];omega) (by decide) (by first | omega | (simp;omega) | (simp;done)) ?_;intro g cap' w6 how6 hgr6 hat6 hlt6;rw [List.length_map] at how6;rw [List.length_map];obtain ⟨xh,x0,x1,x2,x3,x4,x5,xf,xz⟩:=KE.out _ _ hgr6;have hb6:=KB.out _ _ hgr6;have XH:=hd_ xh;have O6:=hd_ how6;clear xh how6 hgr6 hat6)
         go_roundw
         case rel =>
          refine ⟨k + 1,some ⟨g,0,none⟩,cap',by omega,by go_num,by rw [HK.out,List.length_append];rfl,?_,hd_ (by rw [zxr os _ hlt,HA.out,HGOOD.out];rfl),XH.out,hb6⟩
          rw [HK.out,List.map_append,List.length_append]
          exact O6.out
         case measure => simp [intOf];omega
      ·
       skip
       have HBAD:=hd_ (show circB cs os[k] = false by rw [hat];simp [ha,hb])
       clear hat
       go_wp2_with (go_at_call 50;refine (zqn _ _).mono ?_;rintro e w' ⟨rfl,rfl⟩)
       go_ret
       exact ⟨zqh (by rw [zxq h60 h20];exact (zkj hlt HBAD.out).symm),bl_⟩
    ·
     obtain rfl : k = os.length:=by omega
     have ha:=HA.out
     rw [List.take_length] at ha
     have HALL2:=hd_ ha
     clear ha HA
     have hkeys : (hs.map Htlc.Key) ++ (os.take os.length).map Circle.Key = keysOf hs os:=by rw [List.take_length];rfl
     rw [hkeys] at HW ⊢
     clear hkeys NE OB hrl
     go_wp2_with fail
     obtain ⟨wo,rfl⟩ : ∃ wo : World,wo = wr:=⟨_,rfl⟩
     obtain ⟨KS,hKS⟩ : ∃ KS,keysOf hs os = KS:=⟨_,rfl⟩
     rw [hKS] at HW ⊢
     have hkl : KS.length ≤ 80:=by rw [← hKS];unfold keysOf;simp;omega
     have HKS:=hd_ hKS
     clear hKS
     have hcp : KS.length ≤ cp:=by
      obtain ⟨_,cp2,hv2,_,hc2,_⟩:=HW.out.form
      injection hv2 with _ _ hcc
      rw [hcc]
      rwa [List.length_map] at hc2
     have hcm : cp ≤ maxLen:=by
      obtain ⟨_,cp2,hv2,_,_,hm2⟩:=HW.out.form
      injection hv2 with _ _ hcc
      rwa [hcc]
     unfold maxLen at hcm
     have HRK:=hd_ HW.out.rd
     go_loopw [105] (fun i wr' => ∃ k : Nat,k ≤ KS.length∧i = .int .i64 k∧Hid (everyTo k (keyAt KS) = true)∧wr' = wo) (fun i _ => KS.length - (intOf i).toNat)
     case atStart => exact ⟨0,Nat.zero_le _,rfl,hd_ rfl,rfl⟩
     case round =>
      obtain ⟨k,hk,rfl,HEV,rfl⟩:=hrel
      by_cases hlt : k < KS.length
      ·
       obtain ⟨b,off,rfl,hbB,c0⟩:=ztr HRK.out hlt
       have i1 : (0 : Int) ≤ (k : Int):=by omega
       have i2 : (k : Int) < (KS.length : Int):=by omega
       have i3 : (k : Int) ≤ (cp : Int):=by omega
       have HAS:=fun W => i_hasInt (KS.take k) KS[k] (some ⟨b,off,none⟩) cp W (by rw [List.length_take];omega)
       simp only [List.length_take,Nat.min_eq_left (Nat.le_of_lt hlt),List.map_take] at HAS
       have HHAS:=hd_ HAS
       clear HAS
       have hat:=zts hlt
       cases hq : inB KS[k] 1 1000000
       ·
        skip
        have HBAD:=hd_ (show keyAt KS k = false by rw [hat];simp [hq])
        clear hat
        go_wp2_with (go_at_call 140;refine (zxf _ _).mono ?_;rintro e w' ⟨rfl,rfl⟩)
        go_ret
        exact ⟨zqh (by rw [zxq h60 h20];exact (zwg (by rw [HKS.out];exact hlt) (by rw [HKS.out];exact HBAD.out)).symm),bl_⟩
       ·
        skip
        cases hh : hasB (KS.take k) KS[k]
        ·
         have HH2:=hd_ hh
         clear hh
         have HGOOD:=hd_ (show keyAt KS k = true by rw [hat];simp [hq,HH2.out])
         clear hat
         go_wp2_with (go_at_call 140;refine (zxf _ _).mono ?_;rintro e w' ⟨rfl,rfl⟩)
         refine (HHAS.out _ (HRK.out.take k)).mono ?_
         rintro e w7 ⟨rfl,rfl⟩
         rw [HH2.out]
         go_wp2_with fail
         go_roundw
         case rel => exact ⟨k + 1,by omega,by go_num,hd_ (by rw [zjk,HEV.out,HGOOD.out];rfl),trivial⟩
         case measure => simp [intOf];omega
        ·
         have HH2:=hd_ hh
         clear hh
         have HBAD:=hd_ (show keyAt KS k = false by rw [hat];simp [hq,HH2.out])
         clear hat
         go_wp2_with (go_at_call 140;refine (zxf _ _).mono ?_;rintro e w' ⟨rfl,rfl⟩)
         refine (HHAS.out _ (HRK.out.take k)).mono ?_
         rintro e w7 ⟨rfl,rfl⟩
         rw [HH2.out]
         go_wp2_with fail
         go_ret
         exact ⟨zqh (by rw [zxq h60 h20];exact (zwg (by rw [HKS.out];exact hlt) (by rw [HKS.out];exact HBAD.out)).symm),bl_⟩
      ·
       obtain rfl : k = KS.length:=by omega
       go_wp2_with fail
       go_ret
       exact ⟨zqh (by rw [zxq h60 h20];unfold partsB;rw [HALL1.out,HALL2.out,HKS.out,HEV.out];rfl),bl_⟩
theorem zmx (bt bn bw : Int) (cs : List Chan) (hs : List Htlc) (os : List Circle) (A1 A2 A3 : Option Addr) (p1 p2 p3 : Nat) (w : World) (hc : cs.length ≤ 20) (hh : hs.length ≤ 1048576) (ho : os.length ≤ 1048576) (hr : RdBook w w.heap.size A1 cs A2 hs A3 os) :
  Calls Tryz.prog 83 #[.agg #[.int .i64 bt,.int .i64 bn,.int .i64 bw,.slice A1 cs.length p1,.slice A2 hs.length p2,.slice A3 os.length p3]] w fun e w' => e = .returned (.bool (partsOkB cs hs os))∧Below w.heap.size w w':=by
 by_cases h60 : hs.length ≤ 60
 ·
  by_cases h20 : os.length ≤ 20
  ·
   exact zmy bt bn bw cs hs os A1 A2 A3 p1 p2 p3 w hc h60 h20 hr
  ·
   clear hr
   have h1 : decide ((60 : Int) < (hs.length : Int)) = false:=decide_eq_false (by omega)
   have h2 : decide ((20 : Int) < (os.length : Int)) = true:=decide_eq_true (by omega)
   have HE:=hd_ (show partsOkB cs hs os = false by simp [partsOkB,h20])
   go_enter Tryz.func83,Tryz.ntmps83
   go_wp2_with fail
   go_ret
   exact ⟨zqh HE.out.symm,bl_⟩
 ·
  clear hr
  have h1 : decide ((60 : Int) < (hs.length : Int)) = true:=decide_eq_true (by omega)
  have HE:=hd_ (show partsOkB cs hs os = false by simp [partsOkB,h60])
  go_enter Tryz.func83,Tryz.ntmps83
  go_wp2_with fail
  go_ret
  exact ⟨zqh HE.out.symm,bl_⟩
end Go.Proofs.YtdbmkfmenfcbiaaGreat
namespace Go.Proofs.YtdbmkfmenfcbiaaGreat
open Go.RowKit
theorem info_LineL : (Tryz.prog.info? 99).map (fun i => (i.zero,i.size,i.bytes)) = some (some (.agg #[.int .i64 0,.int .i64 0,.int .i64 0]),3,24):=by kernel_rfl
theorem someNeL {a b : Nat} (h : a ≠ b) : some a ≠ some b:=fun e => h (Option.some.inj e)
theorem Ow.pastL {w w' : World} {B g : Nat} {e : TypeId} {n : Nat} {v : Value} {rows : List (List Value)} (h : Ow w B e n v rows) (hg : w.grownBy w' (some g)) (hB : g < B) : Ow w' B e n v rows :=
 h.grown hg (by
  cases hv : v.ownBlock with
  | none => exact .inl rfl
  | some k => exact .inr (someNeL (by have:=(h.block k hv).1;omega)))
def addX (y x : Line) : Line:=⟨y.Kind,y.Ch,wrap64 (y.Amt + x.Amt)⟩
def addF (x : Line) : List Line → List Line
 | [] => [x]
 | y :: l => if lessB y.Kind y.Ch x.Kind x.Ch = true then y :: addF x l else if y.Kind = x.Kind∧y.Ch = x.Ch then (if wrap64 (y.Amt + x.Amt) = 0 then l else addX y x :: l) else x :: y :: l
theorem zgq (x : Line) : ∀ l : List Line,(addF x l).length ≤ l.length + 1
 | [] => Nat.le_refl _
 | y :: l => by
  have:=zgq x l
  rw [addF]
  split
  ·
   simp only [List.length_cons];omega
  ·
   split
   ·
    split
    ·
     simp only [List.length_cons];omega
    ·
     simp only [List.length_cons];omega
   ·
    simp only [List.length_cons];omega
set_option maxRecDepth 100000 in
set_option maxHeartbeats 4000000 in
theorem s_l02Add (l : List Line) (A : Option Addr) (cap : Nat) (xk xc xa : Int) (w : World) (hl : l.length ≤ 1048576) (hr : Rd w w.heap.size 3 A (l.map Line.cells)) :
  Calls Tryz.prog 109 #[.slice A l.length cap,.agg #[.int .i64 xk,.int .i64 xc,.int .i64 xa]] w fun e w' => ∃ A' cap',e = .returned (.slice A' (addF ⟨xk,xc,xa⟩ l).length cap')∧Ow w' w.heap.size 99 3 (.slice A' (addF ⟨xk,xc,xa⟩ l).length cap') ((addF ⟨xk,xc,xa⟩ l).map Line.cells)∧Below w.heap.size w w':=by
 have HR:=hd_ hr
 clear hr
 obtain ⟨i0,hi,hz0,hz1,hz2⟩:=info_parts info_LineL
 have HI:=hd_ hi
 have HZ0:=hd_ hz0
 have HZ1:=hd_ hz1
 have HZ2:=hd_ hz2
 clear hi hz0 hz1 hz2
 have HE0:=hd_ (Ow.empty_ (w:=w.alloc (.cells #[.int .i64 xk,.int .i64 xc,.int .i64 xa] 99)) (g:=w.heap.size + 1) (e:=99) (size:=3) (B:=w.heap.size + 1) (by simp) (Nat.le_refl _))
 have XH0:=hd_ (show ((w.alloc (.cells #[.int .i64 xk,.int .i64 xc,.int .i64 xa] 99)).alloc (.cells #[] 99)).heap[w.heap.size]? = some (.cells #[.int .i64 xk,.int .i64 xc,.int .i64 xa] 99 (0,0)) from zqe (by simp) (zqk rfl))
 go_enter Tryz.func109,Tryz.ntmps109
 go_wp2_with fail
 go_loopw [5,6,12] (fun vo vd i wr => ∃ (k : Nat) (d : Bool) (o : List Line) (B : Option Addr) (cp : Nat),k ≤ l.length∧i = .int .i64 k∧vd = .bool d∧vo = .slice B o.length cp∧((d = false → o.length ≤ k)∧o.length ≤ k + 1)∧Hid (addF ⟨xk,xc,xa⟩ l = o ++ (if d = true then l.drop k else addF ⟨xk,xc,xa⟩ (l.drop k)))∧Ow wr (w.heap.size + 1) 99 3 (.slice B o.length cp) (o.map Line.cells)∧wr.heap[w.heap.size]? = some (.cells #[.int .i64 xk,.int .i64 xc,.int .i64 xa] 99 (0,0))∧Below w.heap.size w wr) (fun _ _ i _ => l.length - (intOf i).toNat)
 case atStart => exact ⟨0,false,[],some ⟨w.heap.size + 1,0,none⟩,0,Nat.zero_le _,rfl,rfl,rfl,⟨fun _ => Nat.zero_le _,Nat.zero_le _⟩,hd_ rfl,HE0.out,XH0.out,bl_⟩
 case round =>
  obtain ⟨k,d,o,B,cp,hk,rfl,rfl,rfl,⟨hol0,hol⟩,HE,how,hxh,hbw⟩:=hrel
  have hbz:=hbw.size
  have hxz:=(gz_ hxh).1
  obtain ⟨_,e0,e1,e2,ef,_⟩:=own3 (Below.refl wr.heap.size wr) hxz hxh
  have XH:=hd_ hxh
  have OB:=hd_ how.block
  have HW:=hd_ how
  clear how hxh
  by_cases hlt : k < l.length
  ·
   obtain ⟨b,off,rfl,hbB,c0,c1,c2⟩:=Line.rd (HR.out.below hbw) hlt
   have hdr:=List.drop_eq_getElem_cons hlt
   obtain ⟨yk,hyk⟩ : ∃ v,l[k].Kind = v:=⟨_,rfl⟩
   obtain ⟨yc,hyc⟩ : ∃ v,l[k].Ch = v:=⟨_,rfl⟩
   obtain ⟨ya,hya⟩ : ∃ v,l[k].Amt = v:=⟨_,rfl⟩
   have hlk : l[k] = ⟨yk,yc,ya⟩:=by rw [← hyk,← hyc,← hya]
   rw [hyk] at c0
   rw [hyc] at c1
   rw [hya] at c2
   rw [hlk] at hdr
   have HDR:=hd_ hdr
   clear hyk hyc hya hlk hdr
   cases d
   ·
    have hol1:=hol0 rfl
    clear hol0
    obtain ⟨bl,hbl⟩ : ∃ bl,lessB yk yc xk xc = bl:=⟨_,rfl⟩
    have HBL:=hd_ hbl
    have HEA:=hd_ (fun W => eq_acc W yk yc xk xc)
    have HNA:=hd_ (fun W => neq_acc W yk yc xk xc)
    clear hbl
    go_wp2_with fail
    refine (s_l02Less yk yc xk xc _).mono ?_
    rintro e w2 ⟨rfl,hb2⟩
    have z2:=hb2.size
    try simp at z2
    rw [HBL.out]
    have yh2 : w2.heap[wr.heap.size]? = some (.cells #[.int .i64 yk,.int .i64 yc,.int .i64 ya] 99 (0,0)):=zqc hb2 (by simp) (zqk rfl)
    have xh2:=zqc hb2 (by simp;omega) (zqe hxz XH.out)
    have HW2:=hd_ ((HW.out.alloc (.cells #[.int .i64 yk,.int .i64 yc,.int .i64 ya] 99)).below hb2)
    have hbw2 : Below w.heap.size w w2:=bl_
    have hbz2:=hbw2.size
    clear hb2 e0 e1 e2 ef c0 c1 c2 HW XH
    obtain ⟨_,e0,e1,e2,ef,hxz2⟩:=own3 (Below.refl w2.heap.size w2) (gz_ xh2).1 xh2
    obtain ⟨_,c0,c1,c2,cf,hyz2⟩:=own3 (Below.refl w2.heap.size w2) (gz_ yh2).1 yh2
    have XH2:=hd_ xh2
    have YH2:=hd_ yh2
    obtain ⟨Y,hY⟩ : ∃ Y,wr.heap.size = Y:=⟨_,rfl⟩
    have hYw : w.heap.size + 1 ≤ Y:=by omega
    have NX : some w.heap.size ≠ (Value.slice B o.length cp).ownBlock:=fun e => by have:=(OB.out _ e.symm).1;omega
    have NY : some Y ≠ (Value.slice B o.length cp).ownBlock:=fun e => by have:=(OB.out _ e.symm).2;omega
    rw [hY] at c0 c1 c2 cf YH2 hyz2 ⊢
    have KX:=hd_ (fun o1 (w6 : World) (hgr : (w2.alloc o1).grownBy w6 (Value.slice B o.length cp).ownBlock) => zqj hgr NX (zqe hxz2 XH2.out))
    have KY:=hd_ (fun o1 (w6 : World) (hgr : (w2.alloc o1).grownBy w6 (Value.slice B o.length cp).ownBlock) => zqj hgr NY (zqe hyz2 YH2.out))
    have KB:=hd_ (fun o1 (w6 : World) (hgr : (w2.alloc o1).grownBy w6 (Value.slice B o.length cp).ownBlock) => (hbw2.alloc (Nat.le_trans (Nat.le_refl _) hbz2) o1).grown hgr (by simp;omega) (fun k e => by have:=(OB.out k e).1;omega))
    clear NX NY xh2 yh2 z2 hY
    cases bl
    ·
     by_cases he : yk = xk∧yc = xc
     ·
      have hq1 : ∀ W,(binOp .neq 55 (.agg #[.int .i64 yk,.int .i64 yc]) (.agg #[.int .i64 xk,.int .i64 xc])).run Tryz.prog W = .ok (.bool false) W:=fun W => by rw [HNA.out W,zgp he];rfl
      have hq2 : ∀ W,(binOp .eql 55 (.agg #[.int .i64 yk,.int .i64 yc]) (.agg #[.int .i64 xk,.int .i64 xc])).run Tryz.prog W = .ok (.bool true) W:=fun W => by rw [HEA.out W,zgp he]
      obtain ⟨S,hS⟩ : ∃ S,wrap64 (ya + xa) = S:=⟨_,rfl⟩
      have hS' : IntKind.i64.wrap (ya + xa) = S:=by rw [IntKind.wrap_i64,← hS];unfold wrap64;omega
      have HS:=hd_ hS
      by_cases hs0 : S = 0
      ·
       have ts : (S == 0) = true:=by rw [hs0];rfl
       have HE2:=hd_ (show addF ⟨xk,xc,xa⟩ l = o ++ (if true = true then l.drop (k + 1) else addF ⟨xk,xc,xa⟩ (l.drop (k + 1))) by
        rw [HE.out,if_neg (by simp),HDR.out,addF,if_neg (by simp only;rw [HBL.out];simp),if_pos he,if_pos (by simp only;rw [HS.out,hs0]),if_pos rfl])
       clear he hs0
       go_wp2_with fail
       go_roundw
       case rel => exact ⟨k + 1,true,o,B,cp,by omega,by go_num,rfl,rfl,⟨(fun h => by cases h),by omega⟩,hd_ HE2.out,HW2.out,XH2.out,hbw2⟩
       case measure => simp [intOf];omega
      ·
       have ts : (S == 0) = false:=by simpa using hs0
       have HE2:=hd_ (show addF ⟨xk,xc,xa⟩ l = (o ++ [⟨yk,yc,S⟩]) ++ (if true = true then l.drop (k + 1) else addF ⟨xk,xc,xa⟩ (l.drop (k + 1))) by
        rw [HE.out,if_neg (by simp),HDR.out,addF,if_neg (by simp only;rw [HBL.out];simp),if_pos he,if_neg (by simp only;rw [HS.out];exact hs0),if_pos rfl,addX];simp only;rw [HS.out];simp)
       clear he hs0
       go_wp2_with (at_builtin;refine zqy rfl _ _ _ rfl (w.heap.size + 1) 99 i0 _ 3 24 Tryz.underlying45 HI.out HZ0.out HZ1.out HZ2.out rfl (by decide) (.slice B o.length cp) (o.map Line.cells) rfl (HW2.out.alloc _) (w2.heap.size) 1 [.int .i64 yk,.int .i64 yc,.int .i64 S] 99 rfl (zqk (by first | rfl | (simp;done))) rfl (by simp [Value.oneCell']) (by rw [List.length_map];first | omega | (simp;omega)) (by decide) (by first | omega | (simp;omega) | (simp;done)) ?_;intro g6 cap6 w6 how6 hgr6 hat6 hlt6;rw [List.length_map] at how6;rw [List.length_map];have xh6:=KX.out _ _ hgr6;have yh6:=KY.out _ _ hgr6;have hb6:=KB.out _ _ hgr6;obtain ⟨_,s0,s1,s2,sf,sz⟩:=own3 (Below.refl w6.heap.size w6) (gz_ xh6).1 xh6;obtain ⟨_,t0,t1,t2,tf,tz⟩:=own3 (Below.refl w6.heap.size w6) (gz_ yh6).1 yh6;have XH6:=hd_ xh6;clear xh6 yh6;have O6:=hd_ how6;clear how6 hgr6 hat6)
       go_roundw
       case rel =>
        refine ⟨k + 1,true,o ++ [⟨yk,yc,S⟩],some ⟨g6,0,none⟩,cap6,by omega,by go_num,rfl,by rw [List.length_append];rfl,⟨(fun h => by cases h),by rw [List.length_append,List.length_singleton];omega⟩,hd_ HE2.out,?_,XH6.out,hb6⟩
        rw [List.map_append,List.length_append]
        exact O6.out
       case measure => simp [intOf];omega
     ·
      have hq1 : ∀ W,(binOp .neq 55 (.agg #[.int .i64 yk,.int .i64 yc]) (.agg #[.int .i64 xk,.int .i64 xc])).run Tryz.prog W = .ok (.bool true) W:=fun W => by rw [HNA.out W,zmc he];rfl
      have hq2 : ∀ W,(binOp .eql 55 (.agg #[.int .i64 yk,.int .i64 yc]) (.agg #[.int .i64 xk,.int .i64 xc])).run Tryz.prog W = .ok (.bool false) W:=fun W => by rw [HEA.out W,zmc he]
      have HE2:=hd_ (show addF ⟨xk,xc,xa⟩ l = ((o ++ [⟨xk,xc,xa⟩]) ++ [⟨yk,yc,ya⟩]) ++ (if true = true then l.drop (k + 1) else addF ⟨xk,xc,xa⟩ (l.drop (k + 1))) by
       rw [HE.out,if_neg (by simp),HDR.out,addF,if_neg (by simp only;rw [HBL.out];simp),if_neg he,if_pos rfl];simp)
      clear he
      go_wp2_with (first
       | (at_builtin;refine zqy rfl _ _ _ rfl (w.heap.size + 1) 99 i0 _ 3 24 Tryz.underlying45 HI.out HZ0.out HZ1.out HZ2.out rfl (by decide) (.slice B o.length cp) (o.map Line.cells) rfl (HW2.out.alloc _) (w2.heap.size) 1 [.int .i64 xk,.int .i64 xc,.int .i64 xa] 99 rfl (zqk (by first | rfl | (simp;done))) rfl (by simp [Value.oneCell']) (by rw [List.length_map];first | omega | (simp;omega)) (by decide) (by first | omega | (simp;omega) | (simp;done)) ?_;intro g6 cap6 w6 how6 hgr6 hat6 hlt6;rw [List.length_map] at how6;rw [List.length_map];have xh6:=KX.out _ _ hgr6;have yh6:=KY.out _ _ hgr6;have hb6:=KB.out _ _ hgr6;have hb6z:=hb6.size;obtain ⟨_,s0,s1,s2,sf,sz⟩:=own3 (Below.refl w6.heap.size w6) (gz_ xh6).1 xh6;obtain ⟨_,t0,t1,t2,tf,tz⟩:=own3 (Below.refl w6.heap.size w6) (gz_ yh6).1 yh6;have XH6:=hd_ xh6;have OB6:=hd_ how6.block;have NX : some w.heap.size ≠ (Value.slice (some ⟨g6,0,none⟩) (o.length + 1) cap6).ownBlock:=(fun e => by have:=(OB6.out _ e.symm).1;omega);have KX7:=hd_ (fun o1 (w7 : World) (hgr : (w6.alloc o1).grownBy w7 (Value.slice (some ⟨g6,0,none⟩) (o.length + 1) cap6).ownBlock) => zqj hgr NX (zqe sz XH6.out));have KB7:=hd_ (fun o1 (w7 : World) (hgr : (w6.alloc o1).grownBy w7 (Value.slice (some ⟨g6,0,none⟩) (o.length + 1) cap6).ownBlock) => (hb6.alloc (Nat.le_trans (Nat.le_refl _) hb6z) o1).grown hgr (by simp;omega) (fun k e => by have:=(OB6.out k e).1;omega));clear NX xh6 yh6;have O6:=hd_ how6;clear how6 hgr6 hat6;have hO6:=O6.out;rw [show o.map Line.cells ++ [[.int .i64 xk,.int .i64 xc,.int .i64 xa]] = (o ++ [(⟨xk,xc,xa⟩ : Line)]).map Line.cells by rw [List.map_append];rfl,show o.length + 1 = (o ++ [(⟨xk,xc,xa⟩ : Line)]).length by rw [List.length_append];rfl] at hO6;have hol2 : (o ++ [(⟨xk,xc,xa⟩ : Line)]).length ≤ k + 1:=(by rw [List.length_append,List.length_singleton];omega);have O6':=hd_ hO6;rw [show o.length + 1 = (o ++ [(⟨xk,xc,xa⟩ : Line)]).length by rw [List.length_append];rfl] at KX7 KB7 ⊢;obtain ⟨o2,ho2⟩ : ∃ o2,o ++ [(⟨xk,xc,xa⟩ : Line)] = o2:=⟨_,rfl⟩;rw [ho2] at O6' hol2 HE2 KX7 KB7 ⊢;clear hO6 O6 ho2)
       | (at_builtin;refine zqy rfl _ _ _ rfl (w.heap.size + 1) 99 i0 _ 3 24 Tryz.underlying45 HI.out HZ0.out HZ1.out HZ2.out rfl (by decide) (.slice (some ⟨g6,0,none⟩) o2.length cap6) (o2.map Line.cells) rfl (O6'.out.alloc _) (w6.heap.size) 1 [.int .i64 yk,.int .i64 yc,.int .i64 ya] 99 rfl (zqk (by first | rfl | (simp;done))) rfl (by simp [Value.oneCell']) (by rw [List.length_map];first | omega | (simp;omega)) (by decide) (by first | omega | (simp;omega) | (simp;done)) ?_;intro g7 cap7 w7 how7 hgr7 hat7 hlt7;rw [List.length_map] at how7;rw [List.length_map];have XH7:=hd_ (KX7.out _ _ hgr7);have hb7:=KB7.out _ _ hgr7;have O7:=hd_ how7;clear how7 hgr7 hat7))
      go_roundw
      case rel =>
       refine ⟨k + 1,true,o2 ++ [⟨yk,yc,ya⟩],some ⟨g7,0,none⟩,cap7,by omega,by go_num,rfl,by rw [List.length_append];rfl,⟨(fun h => by cases h),by rw [List.length_append,List.length_singleton];omega⟩,hd_ HE2.out,?_,XH7.out,hb7⟩
       rw [List.map_append,List.length_append]
       exact O7.out
      case measure => simp [intOf];omega
    ·
     have HE2:=hd_ (show addF ⟨xk,xc,xa⟩ l = (o ++ [⟨yk,yc,ya⟩]) ++ (if false = true then l.drop (k + 1) else addF ⟨xk,xc,xa⟩ (l.drop (k + 1))) by
      rw [HE.out,if_neg (by simp),HDR.out,addF,if_pos (by simp only;exact HBL.out),if_neg (by simp)];simp)
     go_wp2_with (at_builtin;refine zqy rfl _ _ _ rfl (w.heap.size + 1) 99 i0 _ 3 24 Tryz.underlying45 HI.out HZ0.out HZ1.out HZ2.out rfl (by decide) (.slice B o.length cp) (o.map Line.cells) rfl (HW2.out.alloc _) (w2.heap.size) 1 [.int .i64 yk,.int .i64 yc,.int .i64 ya] 99 rfl (zqk (by first | rfl | (simp;done))) rfl (by simp [Value.oneCell']) (by rw [List.length_map];first | omega | (simp;omega)) (by decide) (by first | omega | (simp;omega) | (simp;done)) ?_;intro g6 cap6 w6 how6 hgr6 hat6 hlt6;rw [List.length_map] at how6;rw [List.length_map];have XH6:=hd_ (KX.out _ _ hgr6);have hb6:=KB.out _ _ hgr6;have O6:=hd_ how6;clear how6 hgr6 hat6)
     go_roundw
     case rel =>
      refine ⟨k + 1,false,o ++ [⟨yk,yc,ya⟩],some ⟨g6,0,none⟩,cap6,by omega,by go_num,rfl,by rw [List.length_append];rfl,⟨(fun _ => by rw [List.length_append,List.length_singleton];omega),by rw [List.length_append,List.length_singleton];omega⟩,hd_ HE2.out,?_,XH6.out,hb6⟩
      rw [List.map_append,List.length_append]
      exact O6.out
     case measure => simp [intOf];omega
   ·
    clear hol0
    have HE2:=hd_ (show addF ⟨xk,xc,xa⟩ l = (o ++ [⟨yk,yc,ya⟩]) ++ (if true = true then l.drop (k + 1) else addF ⟨xk,xc,xa⟩ (l.drop (k + 1))) by rw [HE.out,HDR.out];simp)
    have NX : some w.heap.size ≠ (Value.slice B o.length cp).ownBlock:=fun e => by have:=(OB.out _ e.symm).1;omega
    have KX:=hd_ (fun o1 o2 (w6 : World) (hgr : ((wr.alloc o1).alloc o2).grownBy w6 (Value.slice B o.length cp).ownBlock) => zqj hgr NX (zqe (by simp;omega) (zqe hxz XH.out)))
    have KB:=hd_ (fun o1 o2 (w6 : World) (hgr : ((wr.alloc o1).alloc o2).grownBy w6 (Value.slice B o.length cp).ownBlock) => ((hbw.alloc (Nat.le_trans (Nat.le_refl _) hbz) o1).alloc (by simp;omega) o2).grown hgr (by simp;omega) (fun k e => by have:=(OB.out k e).1;omega))
    clear NX
    go_wp2_with (at_builtin;refine zqy rfl _ _ _ rfl (w.heap.size + 1) 99 i0 _ 3 24 Tryz.underlying45 HI.out HZ0.out HZ1.out HZ2.out rfl (by decide) (.slice B o.length cp) (o.map Line.cells) rfl ((HW.out.alloc _).alloc _) (wr.heap.size + 1) 1 [.int .i64 yk,.int .i64 yc,.int .i64 ya] 99 rfl (zqk (by first | rfl | (simp;done))) rfl (by simp [Value.oneCell']) (by rw [List.length_map];first | omega | (simp;omega)) (by decide) (by first | omega | (simp;omega) | (simp;done)) ?_;intro g6 cap6 w6 how6 hgr6 hat6 hlt6;rw [List.length_map] at how6;rw [List.length_map];have XH6:=hd_ (KX.out _ _ _ hgr6);have hb6:=KB.out _ _ _ hgr6;have O6:=hd_ how6;clear how6 hgr6 hat6)
    go_roundw
    case rel =>
     refine ⟨k + 1,true,o ++ [⟨yk,yc,ya⟩],some ⟨g6,0,none⟩,cap6,by omega,by go_num,rfl,by rw [List.length_append];rfl,⟨(fun h => by cases h),by rw [List.length_append,List.length_singleton];omega⟩,hd_ HE2.out,?_,XH6.out,hb6⟩
     rw [List.map_append,List.length_append]
     exact O6.out
    case measure => simp [intOf];omega
  ·
   clear hol0
   obtain rfl : k = l.length:=by omega
   cases d
   ·
    have HE2:=hd_ (show addF ⟨xk,xc,xa⟩ l = o ++ [⟨xk,xc,xa⟩] by rw [HE.out,if_neg (by simp),List.drop_length];rfl)
    have KB:=hd_ (fun o1 (w6 : World) (hgr : (wr.alloc o1).grownBy w6 (Value.slice B o.length cp).ownBlock) => (hbw.alloc (Nat.le_trans (Nat.le_refl _) hbz) o1).grown hgr (by simp;omega) (fun k e => by have:=(OB.out k e).1;omega))
    go_wp2_with (at_builtin;refine zqy rfl _ _ _ rfl (w.heap.size + 1) 99 i0 _ 3 24 Tryz.underlying45 HI.out HZ0.out HZ1.out HZ2.out rfl (by decide) (.slice B o.length cp) (o.map Line.cells) rfl (HW.out.alloc _) (wr.heap.size) 1 [.int .i64 xk,.int .i64 xc,.int .i64 xa] 99 rfl (zqk (by first | rfl | (simp;done))) rfl (by simp [Value.oneCell']) (by rw [List.length_map];first | omega | (simp;omega)) (by decide) (by first | omega | (simp;omega) | (simp;done)) ?_;intro g6 cap6 w6 how6 hgr6 hat6 hlt6;rw [List.length_map] at how6;rw [List.length_map];have hb6:=KB.out _ _ hgr6;have O6:=hd_ how6;clear how6 hgr6 hat6)
    go_ret
    have ho:=O6.out.more (B':=w.heap.size) (by omega)
    refine ⟨some ⟨g6,0,none⟩,cap6,by rw [HE2.out,List.length_append];rfl,?_,hb6⟩
    rw [HE2.out,List.map_append,List.length_append]
    exact ho
   ·
    have HE2:=hd_ (show addF ⟨xk,xc,xa⟩ l = o by rw [HE.out,if_pos rfl,List.drop_length,List.append_nil])
    go_wp2_with fail
    go_ret
    exact ⟨B,cp,by rw [HE2.out];rfl,by rw [HE2.out];exact HW.out.more (by omega),hbw⟩
end Go.Proofs.YtdbmkfmenfcbiaaGreat
namespace Go.Proofs.YtdbmkfmenfcbiaaGreat
open Go.RowKit
structure Event where
 Kind : Int
 Key : Int
 Ch : Int
 To : Int
 Amt : Int
 Fee : Int
 Yes : Bool
def Event.cells (d : Event) : List Value:=[.int .i64 d.Kind,.int .i64 d.Key,.int .i64 d.Ch,.int .i64 d.To,.int .i64 d.Amt,.int .i64 d.Fee,.bool d.Yes]
theorem Event.uni (l : List Event) : ∀ r ∈ l.map Event.cells,r.length = 7:=by
 intro r hr
 obtain ⟨d,_,rfl⟩:=List.mem_map.1 hr
 rfl
theorem Event.of_flat {cs : List Value} (h0 : flat [true,true,true,true,true,true,false] cs) : ∃ d : Event,cs = d.cells∧True:=by
 obtain ⟨a0,cs0,e0,h1⟩:=zxs h0
 obtain ⟨a1,cs1,e1,h2⟩:=zxs h1
 obtain ⟨a2,cs2,e2,h3⟩:=zxs h2
 obtain ⟨a3,cs3,e3,h4⟩:=zxs h3
 obtain ⟨a4,cs4,e4,h5⟩:=zxs h4
 obtain ⟨a5,cs5,e5,h6⟩:=zxs h5
 obtain ⟨a6,cs6,e6,h7⟩:=flat_b h6
 have e7:=zvf h7
 subst e0 e1 e2 e3 e4 e5 e6 e7
 exact ⟨⟨a0,a1,a2,a3,a4,a5,a6⟩,rfl,trivial⟩
theorem Event.rd {w : World} {B : Nat} {A : Option Addr} {l : List Event} (h : Rd w B 7 A (l.map Event.cells)) {k : Nat} (hk : k < l.length) :
  ∃ b off,A = some ⟨b,off,none⟩∧b < B∧w.cell? ⟨b,off + k * 7,none⟩ = some (.int .i64 l[k].Kind)∧w.cell? ⟨b,off + k * 7 + 1,none⟩ = some (.int .i64 l[k].Key)∧w.cell? ⟨b,off + k * 7 + 2,none⟩ = some (.int .i64 l[k].Ch)∧w.cell? ⟨b,off + k * 7 + 3,none⟩ = some (.int .i64 l[k].To)∧w.cell? ⟨b,off + k * 7 + 4,none⟩ = some (.int .i64 l[k].Amt)∧w.cell? ⟨b,off + k * 7 + 5,none⟩ = some (.int .i64 l[k].Fee)∧w.cell? ⟨b,off + k * 7 + 6,none⟩ = some (.bool l[k].Yes):=by
 obtain ⟨b,off,e,hb,hc⟩:=h.2 (by rw [List.length_map];omega)
 have hk' : (l.map Event.cells)[k]? = some l[k].cells:=by rw [List.getElem?_map,List.getElem?_eq_getElem hk];rfl
 exact ⟨b,off,e,hb,hc k _ 0 _ hk' rfl,hc k _ 1 _ hk' rfl,hc k _ 2 _ hk' rfl,hc k _ 3 _ hk' rfl,hc k _ 4 _ hk' rfl,hc k _ 5 _ hk' rfl,hc k _ 6 _ hk' rfl⟩
theorem Event.fl (l : List Event) {k : Nat} (hk : k < l.length) : (l.map Event.cells).flatten[k * 7]? = some (.int .i64 l[k].Kind)∧(l.map Event.cells).flatten[k * 7 + 1]? = some (.int .i64 l[k].Key)∧(l.map Event.cells).flatten[k * 7 + 2]? = some (.int .i64 l[k].Ch)∧(l.map Event.cells).flatten[k * 7 + 3]? = some (.int .i64 l[k].To)∧(l.map Event.cells).flatten[k * 7 + 4]? = some (.int .i64 l[k].Amt)∧(l.map Event.cells).flatten[k * 7 + 5]? = some (.int .i64 l[k].Fee)∧(l.map Event.cells).flatten[k * 7 + 6]? = some (.bool l[k].Yes):=by
 have hk' : (l.map Event.cells)[k]? = some l[k].cells:=by rw [List.getElem?_map,List.getElem?_eq_getElem hk];rfl
 exact ⟨zqs _ 7 (Event.uni l) k 0 _ hk' (by omega),zqs _ 7 (Event.uni l) k 1 _ hk' (by omega),zqs _ 7 (Event.uni l) k 2 _ hk' (by omega),zqs _ 7 (Event.uni l) k 3 _ hk' (by omega),zqs _ 7 (Event.uni l) k 4 _ hk' (by omega),zqs _ 7 (Event.uni l) k 5 _ hk' (by omega),zqs _ 7 (Event.uni l) k 6 _ hk' (by omega)⟩
theorem l_eqEvent (x0 : Int) (x1 : Int) (x2 : Int) (x3 : Int) (x4 : Int) (x5 : Int) (x6 : Bool) (w : World) :
  Calls Tryz.prog 39 #[.agg #[.int .i64 x0,.int .i64 x1,.int .i64 x2,.int .i64 x3,.int .i64 x4,.int .i64 x5,.bool x6],.agg #[.int .i64 x0,.int .i64 x1,.int .i64 x2,.int .i64 x3,.int .i64 x4,.int .i64 x5,.bool x6]] w fun e w' => e = .returned (.bool true)∧Below w.heap.size w w':=by
 go_enter Tryz.func39,Tryz.ntmps39
 go_wp2
 go_ret
 refine ⟨rfl,?_⟩
 exact bl_
set_option maxRecDepth 100000 in
set_option maxHeartbeats 1000000 in
theorem l_eqEventS (l : List Event) (A1 A2 : Option Addr) (cap1 cap2 : Nat) (w : World) (hl : l.length ≤ 1048576) (hr1 : Rd w w.heap.size 7 A1 (l.map Event.cells)) (hr2 : Rd w w.heap.size 7 A2 (l.map Event.cells)) :
  Calls Tryz.prog 11 #[.slice A1 l.length cap1,.slice A2 l.length cap2] w fun e w' => e = .returned (.bool true)∧Below w.heap.size w w':=by
 go_enter Tryz.func11,Tryz.ntmps11
 go_wp2_with fail
 go_loopw [5] (fun i wr => ∃ k : Nat,k ≤ l.length∧i = .int .i64 k∧Below w.heap.size w wr) (fun i _ => l.length - (intOf i).toNat)
 case atStart => exact ⟨0,Nat.zero_le _,rfl,Below.refl _ _⟩
 case round =>
  obtain ⟨k,hk,rfl,hbw⟩:=hrel
  have hbz:=hbw.size
  by_cases hlt : k < l.length
  ·
   obtain ⟨b,off,rfl,hbB,c0,c1,c2,c3,c4,c5,c6⟩:=Event.rd (hr1.below hbw) hlt
   obtain ⟨b',off',rfl,hbB',d0,d1,d2,d3,d4,d5,d6⟩:=Event.rd (hr2.below hbw) hlt
   clear hr1 hr2
   go_wp2_with fail
   go_still_tail 8,(by kernel_rfl)
   change wpList _ _ _ _ _ wr.drew
   go_wp2_with fail
   refine (l_eqEvent _ _ _ _ _ _ _ _).mono ?_
   rintro e w1 ⟨rfl,hb1⟩
   go_wp2_with fail
   go_roundw
   case rel => exact ⟨k + 1,by omega,by go_num,bl_⟩
   case measure => simp [intOf];omega
  ·
   obtain rfl : k = l.length:=by omega
   clear hr1 hr2
   go_wp2
   go_ret
   exact ⟨rfl,hbw⟩
abbrev evC (e : Event) : Array Value:=#[.int .i64 e.Kind,.int .i64 e.Key,.int .i64 e.Ch,.int .i64 e.To,.int .i64 e.Amt,.int .i64 e.Fee,.bool e.Yes]
abbrev kqE (w : World) (g : Nat) (e : Event) (R : Prop) : Prop:=w.cell? ⟨g,0,none⟩ = some (.int .i64 e.Kind)∧w.cell? ⟨g,1,none⟩ = some (.int .i64 e.Key)∧w.cell? ⟨g,2,none⟩ = some (.int .i64 e.Ch)∧w.cell? ⟨g,3,none⟩ = some (.int .i64 e.To)∧w.cell? ⟨g,4,none⟩ = some (.int .i64 e.Amt)∧w.cell? ⟨g,5,none⟩ = some (.int .i64 e.Fee)∧w.cell? ⟨g,6,none⟩ = some (.bool e.Yes)∧R
abbrev kqE_ (w : World) (g : Nat) (e : Event) : Prop:=w.cell? ⟨g,0,none⟩ = some (.int .i64 e.Kind)∧w.cell? ⟨g,1,none⟩ = some (.int .i64 e.Key)∧w.cell? ⟨g,2,none⟩ = some (.int .i64 e.Ch)∧w.cell? ⟨g,3,none⟩ = some (.int .i64 e.To)∧w.cell? ⟨g,4,none⟩ = some (.int .i64 e.Amt)∧w.cell? ⟨g,5,none⟩ = some (.int .i64 e.Fee)∧w.cell? ⟨g,6,none⟩ = some (.bool e.Yes)
end Go.Proofs.YtdbmkfmenfcbiaaGreat
namespace Go.Proofs.YtdbmkfmenfcbiaaGreat
open Go.RowKit
set_option maxRecDepth 100000 in
set_option maxHeartbeats 8000000 in
theorem ztb (bt bn bw : Int) (cs : List Chan) (hs : List Htlc) (os : List Circle) (A1 A2 A3 : Option Addr) (p1 p2 p3 : Nat) (w : World) (hc : cs.length ≤ 20) (h60 : hs.length ≤ 60) (h20 : os.length ≤ 20) (hr : RdBook w w.heap.size A1 cs A2 hs A3 os) :
  Calls Tryz.prog 57 #[.agg #[.int .i64 bt,.int .i64 bn,.int .i64 bw,.slice A1 cs.length p1,.slice A2 hs.length p2,.slice A3 os.length p3]] w fun e w' => e = .returned (.bool (partsB cs hs os))∧Below w.heap.size w w':=by
 have HR:=hd_ hr
 have HH:=hd_ hr.h
 have HO:=hd_ hr.o
 clear hr
 go_enter Tryz.func57,Tryz.ntmps57
 go_wp2_with fail
 go_loopw [13] (fun i wr => ∃ k : Nat,k ≤ hs.length∧i = .int .i64 k∧Hid ((hs.take k).all (htlcB cs) = true)∧wr.heap[w.heap.size]? = some (.cells #[.int .i64 bt,.int .i64 bn,.int .i64 bw,.slice A1 cs.length p1,.slice A2 hs.length p2,.slice A3 os.length p3] 39 (0,0))∧Below w.heap.size w wr) (fun i _ => hs.length - (intOf i).toNat)
 case atStart => exact ⟨0,Nat.zero_le _,rfl,hd_ rfl,zqk rfl,bl_⟩
 case round =>
  obtain ⟨k,hk,rfl,HA,hbox,hbw⟩:=hrel
  have hbz:=hbw.size
  obtain ⟨eh,e0,e1,e2,e3,e4,e5,ef,ezz⟩:=own6 (Below.refl wr.heap.size wr) (gz_ hbox).1 hbox
  have EH:=hd_ eh
  clear eh hbox
  by_cases hlt : k < hs.length
  ·
   obtain ⟨b,off,rfl,hbB,c0,c1,c2,c3,c4,c5,c6⟩:=Htlc.rd (HH.out.below hbw) hlt
   have hat:=htlcB_s cs hs[k]
   cases ht : twoB cs hs[k].In hs[k].Out
   ·
    have HT:=hd_ ht
    clear ht
    have HBAD:=hd_ (show htlcB cs hs[k] = false by rw [hat];simp [HT.out])
    clear hat
    go_wp2_with fail
    refine (zxt bt bn bw cs hs os _ _ _ _ _ _ hs[k].In hs[k].Out _ (by omega) ((HR.out.below (bl_)).more (by first | omega | (simp;omega) | (simp;done)))).mono ?_
    rintro e w5 ⟨rfl,hb5⟩
    have z5:=hb5.size
    try simp at z5
    rw [HT.out]
    obtain ⟨lh,l0,l1,l2,l3,l4,l5,l6,lf,lz⟩:=own7 (g:=wr.heap.size) hb5 (by first | omega | (simp;omega) | (simp;done)) (hp_)
    obtain ⟨rh,r0,r1,r2,r3,r4,r5,rf,rz⟩:=own6 hb5 (by first | omega | (simp;omega) | (simp;done)) (zqe ezz EH.out)
    have RH:=hd_ rh
    have hbw5 : Below w.heap.size w w5:=bl_
    clear rh lh hb5
    go_wp2_with (go_at_call 56;refine (zqu _ _).mono ?_;rintro e w' ⟨rfl,rfl⟩)
    go_ret
    exact ⟨zqh (zjo hlt HBAD.out).symm,bl_⟩
   ·
    have HT:=hd_ ht
    clear ht
    cases ha : amtB hs[k].AmtIn
    ·
     skip
     have HBAD:=hd_ (show htlcB cs hs[k] = false by rw [hat];simp [HT.out,ha])
     clear hat
     go_wp2_with fail
     refine (zxt bt bn bw cs hs os _ _ _ _ _ _ hs[k].In hs[k].Out _ (by omega) ((HR.out.below (bl_)).more (by first | omega | (simp;omega) | (simp;done)))).mono ?_
     rintro e w5 ⟨rfl,hb5⟩
     have z5:=hb5.size
     try simp at z5
     rw [HT.out]
     obtain ⟨lh,l0,l1,l2,l3,l4,l5,l6,lf,lz⟩:=own7 (g:=wr.heap.size) hb5 (by first | omega | (simp;omega) | (simp;done)) (hp_)
     obtain ⟨rh,r0,r1,r2,r3,r4,r5,rf,rz⟩:=own6 hb5 (by first | omega | (simp;omega) | (simp;done)) (zqe ezz EH.out)
     have RH:=hd_ rh
     have hbw5 : Below w.heap.size w w5:=bl_
     clear rh lh hb5
     go_wp2_with (go_at_call 56;refine (zqu _ _).mono ?_;rintro e w' ⟨rfl,rfl⟩)
     go_ret
     exact ⟨zqh (zjo hlt HBAD.out).symm,bl_⟩
    ·
     skip
     cases hc2 : amtB hs[k].AmtOut
     ·
      skip
      have HBAD:=hd_ (show htlcB cs hs[k] = false by rw [hat];simp [HT.out,ha,hc2])
      clear hat
      go_wp2_with fail
      refine (zxt bt bn bw cs hs os _ _ _ _ _ _ hs[k].In hs[k].Out _ (by omega) ((HR.out.below (bl_)).more (by first | omega | (simp;omega) | (simp;done)))).mono ?_
      rintro e w5 ⟨rfl,hb5⟩
      have z5:=hb5.size
      try simp at z5
      rw [HT.out]
      obtain ⟨lh,l0,l1,l2,l3,l4,l5,l6,lf,lz⟩:=own7 (g:=wr.heap.size) hb5 (by first | omega | (simp;omega) | (simp;done)) (hp_)
      obtain ⟨rh,r0,r1,r2,r3,r4,r5,rf,rz⟩:=own6 hb5 (by first | omega | (simp;omega) | (simp;done)) (zqe ezz EH.out)
      have RH:=hd_ rh
      have hbw5 : Below w.heap.size w w5:=bl_
      clear rh lh hb5
      go_wp2_with (go_at_call 56;refine (zqu _ _).mono ?_;rintro e w' ⟨rfl,rfl⟩)
      go_ret
      exact ⟨zqh (zjo hlt HBAD.out).symm,bl_⟩
     ·
      skip
      cases hb : decide (hs[k].AmtOut < 1)
      ·
       skip
       cases hd : decide (hs[k].AmtIn < hs[k].AmtOut)
       ·
        skip
        cases he : amtB hs[k].Age
        ·
         skip
         have HBAD:=hd_ (show htlcB cs hs[k] = false by rw [hat];simp [HT.out,ha,hc2,hb,hd,he])
         clear hat
         go_wp2_with fail
         refine (zxt bt bn bw cs hs os _ _ _ _ _ _ hs[k].In hs[k].Out _ (by omega) ((HR.out.below (bl_)).more (by first | omega | (simp;omega) | (simp;done)))).mono ?_
         rintro e w5 ⟨rfl,hb5⟩
         have z5:=hb5.size
         try simp at z5
         rw [HT.out]
         obtain ⟨lh,l0,l1,l2,l3,l4,l5,l6,lf,lz⟩:=own7 (g:=wr.heap.size) hb5 (by first | omega | (simp;omega) | (simp;done)) (hp_)
         obtain ⟨rh,r0,r1,r2,r3,r4,r5,rf,rz⟩:=own6 hb5 (by first | omega | (simp;omega) | (simp;done)) (zqe ezz EH.out)
         have RH:=hd_ rh
         have hbw5 : Below w.heap.size w w5:=bl_
         clear rh lh hb5
         go_wp2_with (go_at_call 56;refine (zqu _ _).mono ?_;rintro e w' ⟨rfl,rfl⟩)
         go_ret
         exact ⟨zqh (zjo hlt HBAD.out).symm,bl_⟩
        ·
         skip
         have HGOOD:=hd_ (show htlcB cs hs[k] = true by rw [hat];simp [HT.out,ha,hc2,hb,hd,he])
         clear hat
         go_wp2_with fail
         refine (zxt bt bn bw cs hs os _ _ _ _ _ _ hs[k].In hs[k].Out _ (by omega) ((HR.out.below (bl_)).more (by first | omega | (simp;omega) | (simp;done)))).mono ?_
         rintro e w5 ⟨rfl,hb5⟩
         have z5:=hb5.size
         try simp at z5
         rw [HT.out]
         obtain ⟨lh,l0,l1,l2,l3,l4,l5,l6,lf,lz⟩:=own7 (g:=wr.heap.size) hb5 (by first | omega | (simp;omega) | (simp;done)) (hp_)
         obtain ⟨rh,r0,r1,r2,r3,r4,r5,rf,rz⟩:=own6 hb5 (by first | omega | (simp;omega) | (simp;done)) (zqe ezz EH.out)
         have RH:=hd_ rh
         have hbw5 : Below w.heap.size w w5:=bl_
         clear rh lh hb5
         go_wp2_with (go_at_call 56;refine (zqu _ _).mono ?_;rintro e w' ⟨rfl,rfl⟩)
         go_roundw
         case rel => exact ⟨k + 1,by omega,by go_num,hd_ (by rw [zxr hs _ hlt,HA.out,HGOOD.out];rfl),RH.out,bl_⟩
         case measure => simp [intOf];omega
       ·
        skip
        have HBAD:=hd_ (show htlcB cs hs[k] = false by rw [hat];simp [HT.out,ha,hc2,hb,hd])
        clear hat
        go_wp2_with fail
        refine (zxt bt bn bw cs hs os _ _ _ _ _ _ hs[k].In hs[k].Out _ (by omega) ((HR.out.below (bl_)).more (by first | omega | (simp;omega) | (simp;done)))).mono ?_
        rintro e w5 ⟨rfl,hb5⟩
        have z5:=hb5.size
        try simp at z5
        rw [HT.out]
        obtain ⟨lh,l0,l1,l2,l3,l4,l5,l6,lf,lz⟩:=own7 (g:=wr.heap.size) hb5 (by first | omega | (simp;omega) | (simp;done)) (hp_)
        obtain ⟨rh,r0,r1,r2,r3,r4,r5,rf,rz⟩:=own6 hb5 (by first | omega | (simp;omega) | (simp;done)) (zqe ezz EH.out)
        have RH:=hd_ rh
        have hbw5 : Below w.heap.size w w5:=bl_
        clear rh lh hb5
        go_wp2_with (go_at_call 56;refine (zqu _ _).mono ?_;rintro e w' ⟨rfl,rfl⟩)
        go_ret
        exact ⟨zqh (zjo hlt HBAD.out).symm,bl_⟩
      ·
       skip
       have HBAD:=hd_ (show htlcB cs hs[k] = false by rw [hat];simp [HT.out,ha,hc2,hb])
       clear hat
       go_wp2_with fail
       refine (zxt bt bn bw cs hs os _ _ _ _ _ _ hs[k].In hs[k].Out _ (by omega) ((HR.out.below (bl_)).more (by first | omega | (simp;omega) | (simp;done)))).mono ?_
       rintro e w5 ⟨rfl,hb5⟩
       have z5:=hb5.size
       try simp at z5
       rw [HT.out]
       obtain ⟨lh,l0,l1,l2,l3,l4,l5,l6,lf,lz⟩:=own7 (g:=wr.heap.size) hb5 (by first | omega | (simp;omega) | (simp;done)) (hp_)
       obtain ⟨rh,r0,r1,r2,r3,r4,r5,rf,rz⟩:=own6 hb5 (by first | omega | (simp;omega) | (simp;done)) (zqe ezz EH.out)
       have RH:=hd_ rh
       have hbw5 : Below w.heap.size w w5:=bl_
       clear rh lh hb5
       go_wp2_with (go_at_call 56;refine (zqu _ _).mono ?_;rintro e w' ⟨rfl,rfl⟩)
       go_ret
       exact ⟨zqh (zjo hlt HBAD.out).symm,bl_⟩
  ·
   obtain rfl : k = hs.length:=by omega
   have ha:=HA.out
   rw [List.take_length] at ha
   have HALL1:=hd_ ha
   clear ha HA
   go_wp2_with fail
   obtain ⟨wo,rfl⟩ : ∃ wo : World,wo = wr:=⟨_,rfl⟩
   go_loopw [58] (fun i wr => ∃ k : Nat,k ≤ os.length∧i = .int .i64 k∧Hid ((os.take k).all (circB cs) = true)∧wr.heap[w.heap.size]? = some (.cells #[.int .i64 bt,.int .i64 bn,.int .i64 bw,.slice A1 cs.length p1,.slice A2 hs.length p2,.slice A3 os.length p3] 39 (0,0))∧Below w.heap.size w wr) (fun i _ => os.length - (intOf i).toNat)
   case atStart => exact ⟨0,Nat.zero_le _,rfl,hd_ rfl,EH.out,bl_⟩
   case round =>
    obtain ⟨k,hk,rfl,HA,hbox,hbw⟩:=hrel
    have hbz:=hbw.size
    obtain ⟨eh,e0,e1,e2,e3,e4,e5,ef,ezz⟩:=own6 (Below.refl wr.heap.size wr) (gz_ hbox).1 hbox
    have EH:=hd_ eh
    clear eh hbox
    by_cases hlt : k < os.length
    ·
     obtain ⟨b,off,rfl,hbB,c0,c1,c2,c3,c4⟩:=Circle.rd (HO.out.below hbw) hlt
     have hat:=circB_s cs os[k]
     cases ht : twoB cs os[k].From os[k].To
     ·
      have HT:=hd_ ht
      clear ht
      have HBAD:=hd_ (show circB cs os[k] = false by rw [hat];simp [HT.out])
      clear hat
      go_wp2_with fail
      refine (zxt bt bn bw cs hs os _ _ _ _ _ _ os[k].From os[k].To _ (by omega) ((HR.out.below (bl_)).more (by first | omega | (simp;omega) | (simp;done)))).mono ?_
      rintro e w5 ⟨rfl,hb5⟩
      have z5:=hb5.size
      try simp at z5
      rw [HT.out]
      obtain ⟨lh,l0,l1,l2,l3,l4,lf,lz⟩:=own5 (g:=wr.heap.size) hb5 (by first | omega | (simp;omega) | (simp;done)) (hp_)
      obtain ⟨rh,r0,r1,r2,r3,r4,r5,rf,rz⟩:=own6 hb5 (by first | omega | (simp;omega) | (simp;done)) (zqe ezz EH.out)
      have RH:=hd_ rh
      have hbw5 : Below w.heap.size w w5:=bl_
      clear rh lh hb5
      go_wp2_with (go_at_call 56;refine (zqu _ _).mono ?_;rintro e w' ⟨rfl,rfl⟩)
      go_ret
      exact ⟨zqh (zkj hlt HBAD.out).symm,bl_⟩
     ·
      have HT:=hd_ ht
      clear ht
      cases ha : amtB os[k].Amt
      ·
       skip
       have HBAD:=hd_ (show circB cs os[k] = false by rw [hat];simp [HT.out,ha])
       clear hat
       go_wp2_with fail
       refine (zxt bt bn bw cs hs os _ _ _ _ _ _ os[k].From os[k].To _ (by omega) ((HR.out.below (bl_)).more (by first | omega | (simp;omega) | (simp;done)))).mono ?_
       rintro e w5 ⟨rfl,hb5⟩
       have z5:=hb5.size
       try simp at z5
       rw [HT.out]
       obtain ⟨lh,l0,l1,l2,l3,l4,lf,lz⟩:=own5 (g:=wr.heap.size) hb5 (by first | omega | (simp;omega) | (simp;done)) (hp_)
       obtain ⟨rh,r0,r1,r2,r3,r4,r5,rf,rz⟩:=own6 hb5 (by first | omega | (simp;omega) | (simp;done)) (zqe ezz EH.out)
       have RH:=hd_ rh
       have hbw5 : Below w.heap.size w w5:=bl_
       clear rh lh hb5
       go_wp2_with (go_at_call 56;refine (zqu _ _).mono ?_;rintro e w' ⟨rfl,rfl⟩)
       go_ret
       exact ⟨zqh (zkj hlt HBAD.out).symm,bl_⟩
      ·
       skip
       cases hb : decide (os[k].Amt < 1)
       ·
        skip
        cases he : amtB os[k].Fee
        ·
         skip
         have HBAD:=hd_ (show circB cs os[k] = false by rw [hat];simp [HT.out,ha,hb,he])
         clear hat
         go_wp2_with fail
         refine (zxt bt bn bw cs hs os _ _ _ _ _ _ os[k].From os[k].To _ (by omega) ((HR.out.below (bl_)).more (by first | omega | (simp;omega) | (simp;done)))).mono ?_
         rintro e w5 ⟨rfl,hb5⟩
         have z5:=hb5.size
         try simp at z5
         rw [HT.out]
         obtain ⟨lh,l0,l1,l2,l3,l4,lf,lz⟩:=own5 (g:=wr.heap.size) hb5 (by first | omega | (simp;omega) | (simp;done)) (hp_)
         obtain ⟨rh,r0,r1,r2,r3,r4,r5,rf,rz⟩:=own6 hb5 (by first | omega | (simp;omega) | (simp;done)) (zqe ezz EH.out)
         have RH:=hd_ rh
         have hbw5 : Below w.heap.size w w5:=bl_
         clear rh lh hb5
         go_wp2_with (go_at_call 56;refine (zqu _ _).mono ?_;rintro e w' ⟨rfl,rfl⟩)
         go_ret
         exact ⟨zqh (zkj hlt HBAD.out).symm,bl_⟩
        ·
         skip
         have HGOOD:=hd_ (show circB cs os[k] = true by rw [hat];simp [HT.out,ha,hb,he])
         clear hat
         go_wp2_with fail
         refine (zxt bt bn bw cs hs os _ _ _ _ _ _ os[k].From os[k].To _ (by omega) ((HR.out.below (bl_)).more (by first | omega | (simp;omega) | (simp;done)))).mono ?_
         rintro e w5 ⟨rfl,hb5⟩
         have z5:=hb5.size
         try simp at z5
         rw [HT.out]
         obtain ⟨lh,l0,l1,l2,l3,l4,lf,lz⟩:=own5 (g:=wr.heap.size) hb5 (by first | omega | (simp;omega) | (simp;done)) (hp_)
         obtain ⟨rh,r0,r1,r2,r3,r4,r5,rf,rz⟩:=own6 hb5 (by first | omega | (simp;omega) | (simp;done)) (zqe ezz EH.out)
         have RH:=hd_ rh
         have hbw5 : Below w.heap.size w w5:=bl_
         clear rh lh hb5
         go_wp2_with (go_at_call 56;refine (zqu _ _).mono ?_;rintro e w' ⟨rfl,rfl⟩)
         go_roundw
         case rel => exact ⟨k + 1,by omega,by go_num,hd_ (by rw [zxr os _ hlt,HA.out,HGOOD.out];rfl),RH.out,bl_⟩
         case measure => simp [intOf];omega
       ·
        skip
        have HBAD:=hd_ (show circB cs os[k] = false by rw [hat];simp [HT.out,ha,hb])
        clear hat
        go_wp2_with fail
        refine (zxt bt bn bw cs hs os _ _ _ _ _ _ os[k].From os[k].To _ (by omega) ((HR.out.below (bl_)).more (by first | omega | (simp;omega) | (simp;done)))).mono ?_
        rintro e w5 ⟨rfl,hb5⟩
        have z5:=hb5.size
        try simp at z5
        rw [HT.out]
        obtain ⟨lh,l0,l1,l2,l3,l4,lf,lz⟩:=own5 (g:=wr.heap.size) hb5 (by first | omega | (simp;omega) | (simp;done)) (hp_)
        obtain ⟨rh,r0,r1,r2,r3,r4,r5,rf,rz⟩:=own6 hb5 (by first | omega | (simp;omega) | (simp;done)) (zqe ezz EH.out)
        have RH:=hd_ rh
        have hbw5 : Below w.heap.size w w5:=bl_
        clear rh lh hb5
        go_wp2_with (go_at_call 56;refine (zqu _ _).mono ?_;rintro e w' ⟨rfl,rfl⟩)
        go_ret
        exact ⟨zqh (zkj hlt HBAD.out).symm,bl_⟩
    ·
     obtain rfl : k = os.length:=by omega
     have ha:=HA.out
     rw [List.take_length] at ha
     have HALL2:=hd_ ha
     clear ha HA
     go_wp2_with fail
     refine (zhz bt bn bw cs hs os _ _ _ _ _ _ _ h60 h20 ((HR.out.below (bl_)).more (by first | omega | (simp;omega) | (simp;done)))).mono ?_
     rintro e w8 ⟨B,cp,rfl,how8,hb8⟩
     have HW:=hd_ how8
     have hbw8 : Below w.heap.size w w8:=bl_
     clear how8
     go_wp2_with fail
     obtain ⟨wo,rfl⟩ : ∃ wo : World,wo = w8:=⟨_,rfl⟩
     obtain ⟨KS,hKS⟩ : ∃ KS,keysOf hs os = KS:=⟨_,rfl⟩
     rw [hKS] at HW ⊢
     have hkl : KS.length ≤ 80:=by rw [← hKS];unfold keysOf;simp;omega
     have HKS:=hd_ hKS
     clear hKS
     have hcp : KS.length ≤ cp:=by
      obtain ⟨_,cp2,hv2,_,hc2,_⟩:=HW.out.form
      injection hv2 with _ _ hcc
      rw [hcc]
      rwa [List.length_map] at hc2
     have hcm : cp ≤ maxLen:=by
      obtain ⟨_,cp2,hv2,_,_,hm2⟩:=HW.out.form
      injection hv2 with _ _ hcc
      rwa [hcc]
     unfold maxLen at hcm
     have HRK:=hd_ HW.out.rd
     go_loopw [91] (fun i wr' => ∃ k : Nat,k ≤ KS.length∧i = .int .i64 k∧Hid (everyTo k (keyAt KS) = true)∧wr' = wo) (fun i _ => KS.length - (intOf i).toNat)
     case atStart => exact ⟨0,Nat.zero_le _,rfl,hd_ rfl,rfl⟩
     case round =>
      obtain ⟨k,hk,rfl,HEV,rfl⟩:=hrel
      by_cases hlt : k < KS.length
      ·
       obtain ⟨b,off,rfl,hbB,c0⟩:=ztr HRK.out hlt
       have i1 : (0 : Int) ≤ (k : Int):=by omega
       have i2 : (k : Int) < (KS.length : Int):=by omega
       have i3 : (k : Int) ≤ (cp : Int):=by omega
       have HAS:=fun W => zkg (KS.take k) KS[k] (some ⟨b,off,none⟩) cp W (by rw [List.length_take];omega)
       simp only [List.length_take,Nat.min_eq_left (Nat.le_of_lt hlt),List.map_take] at HAS
       have HHAS:=hd_ HAS
       clear HAS
       have hat:=keyAt_s hlt
       cases hq : decide (KS[k] < 1)
       ·
        skip
        cases hq2 : decide (1000000 < KS[k])
        ·
         skip
         cases hh : hasB (KS.take k) KS[k]
         ·
          have HH2:=hd_ hh
          clear hh
          have HGOOD:=hd_ (show keyAt KS k = true by rw [hat];simp [hq,hq2,HH2.out])
          clear hat
          go_wp2_with fail
          refine (HHAS.out _ (HRK.out.take k)).mono ?_
          rintro e w7 ⟨rfl,rfl⟩
          rw [HH2.out]
          go_wp2_with fail
          go_roundw
          case rel => exact ⟨k + 1,by omega,by go_num,hd_ (by rw [zjk,HEV.out,HGOOD.out];rfl),trivial⟩
          case measure => simp [intOf];omega
         ·
          have HH2:=hd_ hh
          clear hh
          have HBAD:=hd_ (show keyAt KS k = false by rw [hat];simp [hq,hq2,HH2.out])
          clear hat
          go_wp2_with fail
          refine (HHAS.out _ (HRK.out.take k)).mono ?_
          rintro e w7 ⟨rfl,rfl⟩
          rw [HH2.out]
          go_wp2_with fail
          go_ret
          exact ⟨zqh (by exact (zwg (by rw [HKS.out];exact hlt) (by rw [HKS.out];exact HBAD.out)).symm),bl_⟩
        ·
         skip
         have HBAD:=hd_ (show keyAt KS k = false by rw [hat];simp [hq,hq2])
         clear hat
         go_wp2_with fail
         go_ret
         exact ⟨zqh (by exact (zwg (by rw [HKS.out];exact hlt) (by rw [HKS.out];exact HBAD.out)).symm),bl_⟩
       ·
        skip
        have HBAD:=hd_ (show keyAt KS k = false by rw [hat];simp [hq])
        clear hat
        go_wp2_with fail
        go_ret
        exact ⟨zqh (by exact (zwg (by rw [HKS.out];exact hlt) (by rw [HKS.out];exact HBAD.out)).symm),bl_⟩
      ·
       obtain rfl : k = KS.length:=by omega
       go_wp2_with fail
       go_ret
       exact ⟨zqh (by unfold partsB;rw [HALL1.out,HALL2.out,HKS.out,HEV.out];rfl),bl_⟩
end Go.Proofs.YtdbmkfmenfcbiaaGreat
namespace Go.Proofs.YtdbmkfmenfcbiaaGreat
open Go.RowKit

end Go.Proofs.YtdbmkfmenfcbiaaGreat
namespace Go.Proofs.YtdbmkfmenfcbiaaGreat
open Go
/-! ### lines -/
def lineTo (l : List Line) (k c a : Int) : List Line:=if a = 0 then l else addF ⟨k,c,a⟩ l
def nz (l : List Line) : List Line:=l.filter fun x => x.Amt != 0
theorem nz_nil : nz [] = []:=rfl
theorem zgg (x : Line) (l : List Line) : nz (x :: l) = if x.Amt = 0 then nz l else x :: nz l:=by
 unfold nz
 rw [List.filter_cons]
 by_cases h : x.Amt = 0 <;> simp [h]
theorem zsq {x y : Line} {l : List Line} (h : lessB x.Kind x.Ch y.Kind y.Ch = true) : addF x (y :: l) = x :: y :: l:=by
 rw [zkm] at h
 rw [addF,if_neg (by rw [zkm];omega),if_neg (by omega)]
theorem line2 {k c a k' c' a' : Int} (h : k < k') : lineTo (lineTo [] k c a) k' c' a' = nz [⟨k,c,a⟩,⟨k',c',a'⟩]:=by
 have h1 : lessB k c k' c' = true:=zkm.2 (Or.inl h)
 unfold lineTo
 simp only [zgg,nz_nil]
 by_cases h0 : a = 0 <;> by_cases h2 : a' = 0 <;> simp [h0,h2,addF,h1]
theorem line2r {k c a k' c' a' : Int} (h : k < k') : lineTo (lineTo [] k' c' a') k c a = nz [⟨k,c,a⟩,⟨k',c',a'⟩]:=by
 have h1 : lessB k c k' c' = true:=zkm.2 (Or.inl h)
 have h2 : addF ⟨k,c,a⟩ [⟨k',c',a'⟩] = [⟨k,c,a⟩,⟨k',c',a'⟩]:=zsq h1
 unfold lineTo
 simp only [zgg,nz_nil]
 by_cases h0 : a = 0 <;> by_cases h3 : a' = 0 <;> simp [h0,h3,addF]
 simpa [addF] using h2
theorem line3 {k c a k' c' a' k2 c2 a2 : Int} (h : k < k') (h2 : k' < k2) : lineTo (lineTo (lineTo [] k c a) k' c' a') k2 c2 a2 = nz [⟨k,c,a⟩,⟨k',c',a'⟩,⟨k2,c2,a2⟩]:=by
 have h1 : lessB k' c' k2 c2 = true:=zkm.2 (Or.inl h2)
 have h3 : lessB k c k2 c2 = true:=zkm.2 (Or.inl (by omega))
 rw [line2 h]
 unfold lineTo
 simp only [zgg,nz_nil]
 by_cases e0 : a = 0 <;> by_cases e1 : a' = 0 <;> by_cases e2 : a2 = 0 <;> simp [e0,e1,e2,addF,h1,h3]
theorem zyz (x : Line) : ∀ l : List Line,(∀ y ∈ l,¬(y.Kind = x.Kind∧y.Ch = x.Ch)) → mergeF l [x] = some (addF x l)
 | [],_ => by simp [mergeF,addF]
 | y :: l,h => by
  have hy:=h y (by simp)
  rw [mergeF,addF]
  by_cases h1 : lessB y.Kind y.Ch x.Kind x.Ch = true
  ·
   rw [if_pos h1,if_pos h1,zyz x l (fun z hz => h z (by simp [hz]))]
   rfl
  ·
   rw [if_neg h1,if_neg h1,if_neg hy]
   have h2 : lessB x.Kind x.Ch y.Kind y.Ch = true:=by
    rw [Bool.not_eq_true,← Bool.not_eq_true,zkm] at h1
    rw [zkm]
    omega
   rw [if_pos h2]
   have h3 : ∀ m : List Line,mergeF m [] = some m:=by
    intro m
    induction m with
    | nil => simp [mergeF]
    | cons z m ih => rw [mergeF,ih];rfl
   rw [h3]
   rfl
/-! ### events -/
def evB (e : Event) : Bool :=
 if e.Kind = 1 then e.Key == 0 && e.Ch == 0 && e.To == 0 && inB e.Amt 1 1125899906842624 && e.Fee == 0 && !e.Yes
 else if e.Kind = 2 then e.Key == 0 && isChanB e.Ch && e.To == 0 && inB e.Amt 1 1125899906842624 && amtB e.Fee && !e.Yes
 else if e.Kind = 3 then e.Key == 0 && isChanB e.Ch && e.To == 0 && e.Amt == 0 && amtB e.Fee && !e.Yes
 else if e.Kind = 4 then e.Key == 0 && isChanB e.Ch && e.To == 0 && amtB e.Amt && inB e.Fee 0 1000000 && !e.Yes
 else if e.Kind = 5 then inB e.Key 1 1000000 && isChanB e.Ch && isChanB e.To && (e.Ch != e.To) && inB e.Amt 1 1125899906842624 && e.Fee == 0
 else if e.Kind = 8 then e.Key == 0 && e.Ch == 0 && e.To == 0 && e.Amt == 0 && e.Fee == 0 && !e.Yes
 else if e.Kind = 9 then inB e.Key 1 1000000 && isChanB e.Ch && isChanB e.To && (e.Ch != e.To) && inB e.Amt 1 1125899906842624 && amtB e.Fee && !e.Yes
 else if e.Kind = 6 ∨ e.Kind = 7 ∨ e.Kind = 10 ∨ e.Kind = 11 then inB e.Key 1 1000000 && e.Ch == 0 && e.To == 0 && e.Amt == 0 && e.Fee == 0 && !e.Yes
 else false
/-! ### pieces -/
def chan0 : Chan:=⟨0,0,0,0,0,0,0⟩
def chanOf (cs : List Chan) (ch : Int) : Chan:=cs.getD (chanIx cs ch).toNat chan0
def setCh (cs : List Chan) (ch : Int) (f : Chan → Chan) : List Chan:=cs.modify (chanIx cs ch).toNat f
def moveF (dl dr : Int) (c : Chan) : Chan:={ c with Local:=c.Local + dl,Remote:=c.Remote + dr }
def moveC (cs : List Chan) (ch dl dr : Int) : List Chan:=setCh cs ch (moveF dl dr)
def insC (c : Chan) (cs : List Chan) : List Chan:=cs.takeWhile (fun x => decide (x.Id < c.Id)) ++ c :: cs.dropWhile (fun x => decide (x.Id < c.Id))
def usesH (ch : Int) (h : Htlc) : Bool:=h.In == ch || h.Out == ch
def usesC (ch : Int) (c : Circle) : Bool:=c.From == ch || c.To == ch
def busyB (hs : List Htlc) (os : List Circle) (ch : Int) : Bool:=hs.any (usesH ch) || os.any (usesC ch)
def fewH (ch n : Int) (h : Htlc) : Int:=if (h.Out == ch) = true then (if h.Kept = true then n else n + h.AmtOut) else n
def slotH (ch n : Int) (h : Htlc) : Int:=if (h.Out == ch) = true then n + 1 else n
def slotFewH (ch n : Int) (h : Htlc) : Int:=if (h.Out == ch) = true then (if h.Kept = true then n else n + 1) else n
def standB (score : Int) (yes : Bool) : Bool:=inB score (-100) 100 && decide (20 ≤ score) && yes
def allowF (size few all sf s amt : Int) (good : Bool) : Int :=
 if (amtB size && amtB few && amtB all && amtB amt && decide (0 ≤ sf) && decide (0 ≤ s) && decide (few ≤ all) && decide (sf ≤ s)) = false then 0
 else if 10 ≤ s ∨ size < all + amt then 0
 else if sf < 5∧few + amt ≤ size / 2 then 1
 else if good = true then 2 else 0
def roomF (hs : List Htlc) (tq : Chan) (ch amt score : Int) (yes : Bool) : Int :=
 allowF tq.Size (hs.foldl (fewH ch) 0) (hs.foldl (outH ch) 0) (hs.foldl (slotFewH ch) 0) (hs.foldl (slotH ch) 0) amt (standB score yes)
def feeQ (ppm n : Int) : Int:=n * ppm / 1000000 + (if 0 < n * ppm % 1000000 then 1 else 0)
def feeOk (base ppm n : Int) : Bool:=amtB base && amtB n && inB ppm 0 1000000 && amtB (feeQ ppm n) && amtB (base + feeQ ppm n)
def feeV (base ppm n : Int) : Int:=if feeOk base ppm n = true then base + feeQ ppm n else 0
def upF (n : Int) : Int:=if inB n (-100) 100 = true then min (n + 10) 100 else 0
def downF (n : Int) : Int:=if inB n (-100) 100 = true then max (n - 15) (-100) else 0
def fadeF (n : Int) : Int:=if inB n (-100) 100 = true then (if 0 < n then n - 1 else if n < 0 then n + 1 else 0) else 0
def scoreUp (c : Chan) : Chan:={ c with Score:=upF c.Score }
def scoreDown (c : Chan) : Chan:={ c with Score:=downF c.Score }
def fadeC (c : Chan) : Chan:={ c with Score:=fadeF c.Score }
def olderH (h : Htlc) : Htlc:={ h with Age:=if h.Age < 1125899906842624 then h.Age + 1 else h.Age }
/-! ### what an event does: the code, the book, the lines -/
structure Out where
 code : Int
 b : Bk
 l : List Line
def bad (c : Int) : Out:=⟨c,bk0,[]⟩
def done (b : Bk) (l : List Line) : Out:=⟨0,{ b with n:=if l = [] then b.n else b.n + 1 },l⟩
def depB (b : Bk) (e : Event) : Out :=
 if 1125899906842624 < b.w + e.Amt then bad 2 else done { b with w:=b.w + e.Amt } (nz [⟨1,0,e.Amt⟩,⟨2,0,-e.Amt⟩])
def openB (b : Bk) (e : Event) : Out :=
 if 1125899906842624 < e.Amt + e.Fee then bad 2
 else if 0 ≤ chanIx b.cs e.Ch ∨ 20 ≤ b.cs.length then bad 3
 else if b.w < e.Amt then bad 4
 else done { b with cs:=insC ⟨e.Ch,e.Amt + e.Fee,e.Amt,e.Fee,0,0,0⟩ b.cs,w:=b.w - e.Amt } (nz [⟨1,0,-e.Amt⟩,⟨6,e.Ch,e.Amt⟩])
def priceB (b : Bk) (e : Event) : Out :=
 if chanIx b.cs e.Ch < 0 then bad 6 else done { b with cs:=setCh b.cs e.Ch fun c => { c with Base:=e.Amt,Ppm:=e.Fee } } []
def tickB (b : Bk) : Out :=
 if b.t = 1125899906842624 then bad 2
 else done { b with t:=b.t + 1,hs:=b.hs.map olderH,cs:=if (b.t + 1) % 5 = 0 then b.cs.map fadeC else b.cs } []
end Go.Proofs.YtdbmkfmenfcbiaaGreat
namespace Go.Proofs.YtdbmkfmenfcbiaaGreat
open Go.RowKit

theorem bookB_i (bt bn bw : Int) (cs : List Chan) (hs : List Htlc) (os : List Circle) :
    bookB bt bn bw cs hs os = (amtB bt && amtB bw && inB bn 1 1125899906842624 && !decide ((20 : Int) < (cs.length : Int)) && partsOkB cs hs os && everyTo cs.length (chanOk cs hs os)):=by
  rw [Bool.eq_iff_iff]
  simp only [bookB,partsOkB,Bool.and_eq_true,decide_eq_true_eq,Bool.not_eq_true',decide_eq_false_iff_not]
  constructor
  · rintro ⟨⟨⟨⟨⟨⟨⟨h1,h2⟩,h3⟩,h4⟩,h5⟩,h6⟩,h7⟩,h8⟩;exact ⟨⟨⟨⟨⟨h1,h2⟩,h3⟩,by omega⟩,⟨h5,h6⟩,h7⟩,h8⟩
  · rintro ⟨⟨⟨⟨⟨h1,h2⟩,h3⟩,h4⟩,⟨h5,h6⟩,h7⟩,h8⟩;exact ⟨⟨⟨⟨⟨⟨⟨h1,h2⟩,h3⟩,by omega⟩,h5⟩,h6⟩,h7⟩,h8⟩
theorem bookB_s (bt bn bw : Int) (cs : List Chan) (hs : List Htlc) (os : List Circle) :
    bookB bt bn bw cs hs os = (amtB bt && amtB bw && !decide (bn < 1) && !decide (1125899906842624 < bn) && !decide ((20 : Int) < (cs.length : Int)) && !decide ((60 : Int) < (hs.length : Int)) && !decide ((20 : Int) < (os.length : Int)) && partsB cs hs os && everyTo cs.length (chanOk cs hs os)):=by
  rw [Bool.eq_iff_iff]
  simp only [bookB,Bool.and_eq_true,zji,decide_eq_true_eq,Bool.not_eq_true',decide_eq_false_iff_not]
  constructor
  · rintro ⟨⟨⟨⟨⟨⟨⟨h1,h2⟩,h3⟩,h4⟩,h5⟩,h6⟩,h7⟩,h8⟩;exact ⟨⟨⟨⟨⟨⟨⟨⟨h1,h2⟩,by omega⟩,by omega⟩,by omega⟩,by omega⟩,by omega⟩,h7⟩,h8⟩
  · rintro ⟨⟨⟨⟨⟨⟨⟨⟨h1,h2⟩,h3⟩,h3'⟩,h4⟩,h5⟩,h6⟩,h7⟩,h8⟩;exact ⟨⟨⟨⟨⟨⟨⟨h1,h2⟩,by omega⟩,by omega⟩,by omega⟩,by omega⟩,h7⟩,h8⟩
theorem chB_i (hs : List Htlc) (os : List Circle) (c : Chan) : chB hs os c = (isChanB c.Id && amtB c.Local && amtB c.Remote && amtB c.Base && inB c.Ppm 0 1000000 && inB c.Score (-100) 100 && amtB c.Size && !(c.Size != c.Local + c.Remote + outOf hs os c.Id + inOf hs os c.Id)):=by
  simp [chB,bne]
theorem chB_s (hs : List Htlc) (os : List Circle) (c : Chan) : chB hs os c = (!decide (c.Id < 1) && !decide (99 < c.Id) && amtB c.Local && amtB c.Remote && amtB c.Base && !decide (c.Ppm < 0) && !decide (1000000 < c.Ppm) && inB c.Score (-100) 100 && amtB c.Size && !(c.Local + c.Remote + outOf hs os c.Id + inOf hs os c.Id != c.Size)):=by
  rw [Bool.eq_iff_iff]
  simp only [chB,Bool.and_eq_true,zgc,zji,Bool.not_eq_true',decide_eq_false_iff_not,beq_iff_eq,bne_eq_false_iff_eq]
  constructor
  · rintro ⟨⟨⟨⟨⟨⟨⟨h1,h2⟩,h3⟩,h4⟩,h5⟩,h6⟩,h7⟩,h8⟩;exact ⟨⟨⟨⟨⟨⟨⟨⟨⟨by omega,by omega⟩,h2⟩,h3⟩,h4⟩,by omega⟩,by omega⟩,h6⟩,h7⟩,h8.symm⟩
  · rintro ⟨⟨⟨⟨⟨⟨⟨⟨⟨h1,h1'⟩,h2⟩,h3⟩,h4⟩,h5⟩,h5'⟩,h6⟩,h7⟩,h8⟩;exact ⟨⟨⟨⟨⟨⟨⟨by omega,h2⟩,h3⟩,h4⟩,by omega⟩,h6⟩,h7⟩,h8.symm⟩
theorem next_le (a b : Int) : decide (a < b) = !decide (b ≤ a):=by
  rw [Bool.eq_iff_iff]
  simp
theorem zxa {bt bn bw : Int} {cs : List Chan} {hs : List Htlc} {os : List Circle} {k : Nat} (hk : k < cs.length) (h : chanOk cs hs os k = false) : bookB bt bn bw cs hs os = false:=by
  unfold bookB
  rw [zvz hk h,Bool.and_false]
end Go.Proofs.YtdbmkfmenfcbiaaGreat
namespace Go.Proofs.YtdbmkfmenfcbiaaGreat
open Go.RowKit

structure Mvd (w w' : World) (s : Nat → Prop) : Prop where
  os : w'.os = w.os
  tape : w'.tape = w.tape
  output : w'.output = w.output
  size : w.heap.size ≤ w'.heap.size
  block : ∀ k,k < w.heap.size → ¬ s k → w'.heap[k]? = w.heap[k]?
section
variable {w w' w'' a : World} {s : Nat → Prop}
theorem Mvd.of_grown {g : Nat} (h : w.grownBy w' (some g)) (hs : s g) : Mvd w w' s:=⟨h.os,h.tape,h.output,h.size,fun k hk hn => h.block k hk (fun e => by injection e with e;subst e;exact hn hs)⟩
theorem Mvd.trans (h : Mvd a w s) (k : Mvd w w' s) : Mvd a w' s :=
  ⟨k.os.trans h.os,k.tape.trans h.tape,k.output.trans h.output,Nat.le_trans h.size k.size,fun i hi hn => (k.block i (Nat.lt_of_lt_of_le hi h.size) hn).trans (h.block i hi hn)⟩
theorem Mvd.set (h : Mvd a w s) {q : Nat} (hq : s q) (i : Nat) (u : Value) : Mvd a (w.setCell ⟨q,i,none⟩ u) s:=h.trans (Mvd.of_grown (zqg (World.grownBy.refl w (some q)) i u) hq)
theorem Mvd.refl (w : World) (s : Nat → Prop) : Mvd w w s:=⟨rfl,rfl,rfl,Nat.le_refl _,fun _ _ _ => rfl⟩
theorem Mvd.alloc (h : Mvd a w s) (o : Obj) : Mvd a (w.alloc o) s:=h.trans ⟨rfl,rfl,rfl,by simp,fun _ hk _ => zqe hk (by rw [Array.getElem?_eq_getElem hk]) |>.trans (by rw [Array.getElem?_eq_getElem hk])⟩
theorem Mvd.heap {n : Nat} {x : Obj} (h : Mvd w w' s) (hn : ¬ s n) (k : w.heap[n]? = some x) : w'.heap[n]? = some x:=(h.block n (gz_ k).1 hn).trans k
theorem Mvd.grown {g : Nat} (h : a.grownBy w (some g)) (k : Mvd w w' s) (hs : ∀ i,s i → i = g ∨ a.heap.size ≤ i) : a.grownBy w' (some g) :=
  ⟨k.os.trans h.os,k.tape.trans h.tape,k.output.trans h.output,Nat.le_trans h.size k.size,fun i hi hne => (k.block i (Nat.lt_of_lt_of_le hi h.size) (fun hc => (hs i hc).elim (fun e => hne (by rw [e])) (fun e => absurd hi (by omega)))).trans (h.block i hi hne)⟩
end
section
variable {w : World} {B q n cp : Nat} {e : TypeId} {L : List Line}
end
end Go.Proofs.YtdbmkfmenfcbiaaGreat
namespace Go.Proofs.YtdbmkfmenfcbiaaGreat
open Go.RowKit
theorem l_toEvent (x0 : Int) (x1 : Int) (x2 : Int) (x3 : Int) (x4 : Int) (x5 : Int) (x6 : Bool) (w : World) :
  Calls Tryz.prog 32 #[.agg #[.int .i64 x0,.int .i64 x1,.int .i64 x2,.int .i64 x3,.int .i64 x4,.int .i64 x5,.bool x6]] w fun e w' => e = .returned (.agg #[.int .i64 x0,.int .i64 x1,.int .i64 x2,.int .i64 x3,.int .i64 x4,.int .i64 x5,.bool x6])∧Below w.heap.size w w':=by
 go_enter Tryz.func32,Tryz.ntmps32
 go_wp2
 refine bodyPost_ret (v:=.agg #[.int .i64 x0,.int .i64 x1,.int .i64 x2,.int .i64 x3,.int .i64 x4,.int .i64 x5,.bool x6]) (by simp [results,Tryz.results32,go_sem]) rfl ⟨rfl,?_⟩
 exact bl_
theorem ztu (n cap : Nat) (A : Option Addr) (left : Int) (w : World) (h0 : left ≤ 1048576) (h : (n : Int) ≤ left) :
  Calls Tryz.prog 6 #[.slice A n cap,.int .i64 left] w fun e w' => e = .returned (.int .i64 (left - n))∧w = w':=by
 go_enter Tryz.func6,Tryz.ntmps6
 go_wp2
 go_ret
 exact ⟨rfl,rfl⟩
theorem ztt (n cap : Nat) (A : Option Addr) (left : Int) (w : World) (h0 : 0 ≤ left) (hm : n ≤ maxLen) (h : left < (n : Int)) :
  Calls Tryz.prog 6 #[.slice A n cap,.int .i64 left] w fun e w' => e = .returned (.int .i64 (-1))∧w = w':=by
 unfold maxLen at hm
 go_enter Tryz.func6,Tryz.ntmps6
 go_wp2
 go_ret
 exact ⟨rfl,rfl⟩
theorem info_Event : (Tryz.prog.info? 64).map (fun i => (i.zero,i.size,i.bytes)) = some (some (.agg #[.int .i64 0,.int .i64 0,.int .i64 0,.int .i64 0,.int .i64 0,.int .i64 0,.bool false]),7,56):=by kernel_rfl
set_option maxHeartbeats 1000000 in
theorem zvi (l : List Event) (A : Option Addr) (cap : Nat) (w : World) (hl : l.length ≤ 1048576) (hr : Rd w w.heap.size 7 A (l.map Event.cells)) :
  Calls Tryz.prog 8 #[.slice A l.length cap] w fun e w' => e = .returned (.slice (some ⟨w.heap.size,0,none⟩) l.length l.length)∧Ow w' w.heap.size 64 7 (.slice (some ⟨w.heap.size,0,none⟩) l.length l.length) (l.map Event.cells)∧Below w.heap.size w w':=by
 obtain ⟨i0,hi,hz0,hz1,hz2⟩:=info_parts info_Event
 have hmk:=fun W => ztx (P:=Tryz.prog) 26 64 i0 _ Tryz.underlying26 hi hz0 .i64 .i64 l.length l.length (Nat.le_refl _) (by rw [hz2];omega) (by omega) W
 rw [hz1] at hmk
 have hfs : Fill (w.alloc (.cells (madeCells (.agg #[.int .i64 0,.int .i64 0,.int .i64 0,.int .i64 0,.int .i64 0,.int .i64 0,.bool false] : Value).cells (l.length * 7)) 64)) w.heap.size 64 (l.length * 7) 0 (l.map Event.cells).flatten:=Fill.start _ (size_madeCells _ _)
 have HFS:=hd_ hfs
 clear hfs hi hz0 hz1 hz2
 go_enter Tryz.func8,Tryz.ntmps8
 go_wp2_with fail
 go_loopw [4] (fun i wr => ∃ k : Nat,k ≤ l.length∧i = .int .i64 k∧Fill wr w.heap.size 64 (l.length * 7) (k * 7) (l.map Event.cells).flatten∧Below w.heap.size w wr) (fun i _ => l.length - (intOf i).toNat)
 case atStart => exact ⟨0,Nat.zero_le _,rfl,by rw [Nat.zero_mul];exact HFS.out,(Below.refl _ _).alloc (Nat.le_refl _) _⟩
 case round =>
  obtain ⟨k,hk,rfl,hfill,hbw⟩:=hrel
  clear hmk HFS
  have hglt:=hfill.lt
  by_cases hlt : k < l.length
  ·
   obtain ⟨b,off,rfl,hbB,c0,c1,c2,c3,c4,c5,c6⟩:=Event.rd (hr.below hbw) hlt
   have HF:=hd_ hfill
   clear hfill hr
   go_wp2_with fail
   refine (l_toEvent _ _ _ _ _ _ _ _).mono ?_
   rintro e w1 ⟨rfl,hb1⟩
   have z1:=hb1.size
   try simp at z1
   have hf1:=HF.out.below hb1 hglt
   clear HF
   have hg1 : w.heap.size < w1.heap.size:=by omega
   obtain ⟨o0,q0⟩:=hf1.cell (j:=k * 7) (by omega)
   obtain ⟨o1,q1⟩:=hf1.cell (j:=k * 7 + 1) (by omega)
   obtain ⟨o2,q2⟩:=hf1.cell (j:=k * 7 + 2) (by omega)
   obtain ⟨o3,q3⟩:=hf1.cell (j:=k * 7 + 3) (by omega)
   obtain ⟨o4,q4⟩:=hf1.cell (j:=k * 7 + 4) (by omega)
   obtain ⟨o5,q5⟩:=hf1.cell (j:=k * 7 + 5) (by omega)
   obtain ⟨o6,q6⟩:=hf1.cell (j:=k * 7 + 6) (by omega)
   have hff:=hf1.frozen
   have HF:=hd_ hf1
   clear hf1
   go_wp2_with fail
   go_roundw
   case rel =>
    obtain ⟨f0,f1,f2,f3,f4,f5,f6⟩:=Event.fl l hlt
    have hend:=(((((((HF.out.set f0 (by omega)).set f1 (by omega)).set f2 (by omega)).set f3 (by omega)).set f4 (by omega)).set f5 (by omega)).set f6 (by omega))
    exact ⟨k + 1,by omega,by go_num,by rw [Nat.succ_mul];exact hend,bl_⟩
   case measure => simp [intOf];omega
  ·
   obtain rfl : k = l.length:=by omega
   have HF:=hd_ hfill
   clear hfill
   go_wp2
   go_ret
   exact ⟨rfl,(by have h:=Fill.ow (rows:=l.map Event.cells) (size:=7) (by rw [List.length_map];exact HF.out) (Event.uni l) (Nat.le_refl _) (by rw [List.length_map];simp only [maxLen];omega);rwa [List.length_map] at h),hbw⟩
end Go.Proofs.YtdbmkfmenfcbiaaGreat
namespace Go.Proofs.YtdbmkfmenfcbiaaGreat
open Go.RowKit
def markVal (k : Int) (j : Nat) : Value:=if j % 7 = 6 then .bool (((k + j) % 3 == 0)) else .int .i64 (k + j)
theorem bool3 (x y : Int) (h : x = y) : some (Value.bool (x % 3 == 0)) = some (Value.bool (y % 3 == 0)):=by rw [h]
theorem bool3d (x y : Int) (h : x = y) : some (Value.bool (x % 3 == 0)) = some (Value.bool (decide (y % 3 = 0))):=by
 subst h
 by_cases q : x % 3 = 0 <;> simp [q]
theorem zgf (k : Int) {j : Nat} (h : j % 7 ≠ 6) : markVal k j = .int .i64 (k + j):=if_neg h
theorem zpf (k : Int) {j : Nat} (h : j % 7 = 6) : markVal k j = .bool (((k + j) % 3 == 0)):=if_pos h
def MarkedE (w : World) (A : Option Addr) (N : Nat) (k : Int) : Prop:=0 < N → ∃ g,A = some ⟨g,0,none⟩∧g < w.heap.size∧∀ j : Nat,j < N → w.cell? ⟨g,j,none⟩ = some (markVal k j)
theorem MarkedE.below {w w' : World} {A : Option Addr} {N : Nat} {k : Int} (h : MarkedE w A N k) (hb : Below w.heap.size w w') : MarkedE w' A N k:=fun h0 => by
 obtain ⟨g,e,hg,hc⟩:=h h0
 exact ⟨g,e,Nat.lt_of_lt_of_le hg hb.size,fun j hj => (hb.cell (p:=⟨g,j,none⟩) hg).trans (hc j hj)⟩
def markRowE (k : Int) (N : Nat) : List Value:=(List.range N).map (markVal k)
theorem zkz (k : Int) {N j : Nat} (h : j < N) : (markRowE k N)[j]? = some (markVal k j):=by simp [markRowE,h]
theorem zjl (k : Int) {N j : Nat} (h : j < N) (h6 : j % 7 ≠ 6) : (markRowE k N)[j]? = some (.int .i64 (k + j)):=by rw [zkz k h,zgf k h6]
theorem ztv (k : Int) {N j : Nat} (h : j < N) (h6 : j % 7 = 6) : (markRowE k N)[j]? = some (.bool (((k + j) % 3 == 0))):=by rw [zkz k h,zpf k h6]
theorem Fill.markedE {w : World} {g N c : Nat} {e : TypeId} {k : Int} (h : Fill w g e N c (markRowE k c)) : MarkedE w (some ⟨g,0,none⟩) c k:=fun _ => by
 obtain ⟨cs,hh,hs,hx⟩:=h
 refine ⟨g,rfl,(gz_ hh).1,fun j hj => ?_⟩
 rw [zqd hh,hx j hj,zkz k hj]
set_option maxRecDepth 100000 in
set_option maxHeartbeats 1000000 in
theorem zpa (B : Nat) (v : Value) (rows : List (List Value)) (k : Int) (w : World) (h0 : 0 ≤ k) (h1 : k ≤ 1099511627776) (hl : rows.length ≤ 1048576) (how : Ow w B 64 7 v rows) :
  Calls Tryz.prog 12 #[v,.int .i64 k] w fun e w' => e = .returned (.int .i64 (k + (rows.length * 7 : Nat)))∧(∀ A n cap,v = .slice A n cap → MarkedE w' A (rows.length * 7) k)∧w.grownBy w' v.ownBlock:=by
 rcases how.open_ with ⟨rfl,rfl⟩ | ⟨g,cap,rfl,_,hcap,hgw⟩
 ·
  clear how
  go_enter Tryz.func12,Tryz.ntmps12
  go_wp2_with fail
  go_loopw [1,5] (fun q i wr => i = .int .i64 0∧q = .int .i64 k∧wr = w) (fun _ i _ => 0)
  case atStart => exact ⟨rfl,rfl,rfl⟩
  case round =>
   obtain ⟨rfl,rfl,rfl⟩:=hrel
   go_wp2
   go_ret
   exact ⟨by simp,fun A n cap hv h => by simp at h,World.grownBy.refl _ _⟩
 ·
  have hfs : Fill w g 64 (cap * 7) 0 (markRowE k (rows.length * 7)):=Fill.of_ow how
  obtain ⟨m,hm⟩ : ∃ m,rows.length = m:=⟨_,rfl⟩
  rw [hm] at hfs hcap hl ⊢
  have hcm : m * 7 ≤ cap * 7:=Nat.mul_le_mul_right _ hcap
  have HFS:=hd_ hfs
  clear hfs how hm
  go_enter Tryz.func12,Tryz.ntmps12
  go_wp2_with fail
  go_loopw [1,5] (fun q i wr => ∃ j : Nat,j ≤ m∧i = .int .i64 j∧q = .int .i64 (k + (j * 7 : Nat))∧Fill wr g 64 (cap * 7) (j * 7) (markRowE k (m * 7))∧w.grownBy wr (some g)) (fun _ i _ => m - (intOf i).toNat)
  case atStart => exact ⟨0,Nat.zero_le _,rfl,by simp,by rw [Nat.zero_mul];exact HFS.out,World.grownBy.refl _ _⟩
  case round =>
   obtain ⟨i,hi,rfl,rfl,hfill,hgr⟩:=hrel
   have hglt:=hfill.lt
   have hff:=hfill.frozen
   have HF:=hd_ hfill
   have HG:=hd_ hgr
   by_cases hlt : i < m
   ·
    have him : i * 7 + 7 ≤ m * 7:=by
     have:=Nat.mul_le_mul_right 7 hlt
     rw [Nat.succ_mul] at this
     exact this
    obtain ⟨o0,q0⟩:=hfill.cell (j:=i * 7) (by omega)
    obtain ⟨o1,q1⟩:=hfill.cell (j:=i * 7 + 1) (by omega)
    obtain ⟨o2,q2⟩:=hfill.cell (j:=i * 7 + 2) (by omega)
    obtain ⟨o3,q3⟩:=hfill.cell (j:=i * 7 + 3) (by omega)
    obtain ⟨o4,q4⟩:=hfill.cell (j:=i * 7 + 4) (by omega)
    obtain ⟨o5,q5⟩:=hfill.cell (j:=i * 7 + 5) (by omega)
    obtain ⟨o6,q6⟩:=hfill.cell (j:=i * 7 + 6) (by omega)
    clear hfill hgr HFS
    go_wp2_with fail
    go_roundw
    case rel => exact ⟨i + 1,by omega,by go_num,by congr 1;omega,by rw [Nat.succ_mul];exact (Fill.set (Fill.set (Fill.set (Fill.set (Fill.set (Fill.set (Fill.set HF.out (by rw [zjl _ (by omega) (by omega)];congr 2 <;> omega) (by omega)) (by rw [zjl _ (by omega) (by omega)];congr 2 <;> omega) (by omega)) (by rw [zjl _ (by omega) (by omega)];congr 2 <;> omega) (by omega)) (by rw [zjl _ (by omega) (by omega)];congr 2 <;> omega) (by omega)) (by rw [zjl _ (by omega) (by omega)];congr 2 <;> omega) (by omega)) (by rw [zjl _ (by omega) (by omega)];congr 2 <;> omega) (by omega)) (by rw [ztv _ (by omega) (by omega)];first | rfl | exact bool3 _ _ (by omega) | exact bool3d _ _ (by omega)) (by omega)),(zqg (zqg (zqg (zqg (zqg (zqg (zqg HG.out _ _) _ _) _ _) _ _) _ _) _ _) _ _)⟩
    case measure => simp [intOf];omega
   ·
    obtain rfl : i = m:=by omega
    clear hfill hgr HFS
    go_wp2
    go_ret
    refine ⟨rfl,fun A n cap' hv => ?_,HG.out⟩
    injection hv with hv1
    rw [← hv1]
    exact Fill.markedE HF.out
end Go.Proofs.YtdbmkfmenfcbiaaGreat
namespace Go.Proofs.YtdbmkfmenfcbiaaGreat
open Go.RowKit Go.Deep

def hasR (k : Int) : List Bool :=
  if k = 1 then [false,false,false,true,false,false]
  else if k = 2 ∨ k = 4 then [false,true,false,true,true,false]
  else if k = 3 then [false,true,false,false,true,false]
  else if k = 5 then [true,true,true,true,false,true]
  else if k = 9 then [true,true,true,true,true,false]
  else if k = 8 then [false,false,false,false,false,false]
  else [true,false,false,false,false,false]
def fldB (has : Bool) (n lo hi : Int) : Bool:=if has = true then inB n lo hi else n == 0
def evS (h0 h1 h2 h3 h4 h5 : Bool) (least most : Int) (e : Event) : Bool :=
  fldB h0 e.Key 1 1000000 && fldB h1 e.Ch 1 99 && fldB h2 e.To 1 99 && !(h2 && e.Ch == e.To) && fldB h3 e.Amt least 1125899906842624 && fldB h4 e.Fee 0 most && (h5 || !e.Yes)
theorem evB_out {e : Event} (h : e.Kind < 1 ∨ 11 < e.Kind) : evB e = false:=by
  unfold evB
  rw [if_neg (by omega),if_neg (by omega),if_neg (by omega),if_neg (by omega),if_neg (by omega),if_neg (by omega),if_neg (by omega),if_neg (by omega)]
theorem evB_in {e : Event} (h1 : 1 ≤ e.Kind) (h2 : e.Kind ≤ 11) : ∃ h0 h1' h2' h3 h4 h5,hasR e.Kind = [h0,h1',h2',h3,h4,h5]∧evB e = evS h0 h1' h2' h3 h4 h5 (if e.Kind = 4 then 0 else 1) (if e.Kind = 4 then 1000000 else 1125899906842624) e:=by
  obtain ⟨k,key,ch,tq,amt,fee,yes⟩:=e
  simp only at h1 h2
  have hk : k = 1 ∨ k = 2 ∨ k = 3 ∨ k = 4 ∨ k = 5 ∨ k = 6 ∨ k = 7 ∨ k = 8 ∨ k = 9 ∨ k = 10 ∨ k = 11:=by omega
  rcases hk with rfl | rfl | rfl | rfl | rfl | rfl | rfl | rfl | rfl | rfl | rfl <;>
    exact ⟨_,_,_,_,_,_,rfl,by cases yes <;> simp [evB,evS,fldB,isChanB,amtB,Bool.and_assoc,bne]⟩
theorem zkl {P : Program} {c : Go.Code} {Q : Exit → Act → World → Prop} {a : Act} {w : World} (h : ∀ wq,wq = w → Go.Code.wp P c Q a wq) : Go.Code.wp P c Q a w:=h w rfl
theorem zxp (has : Bool) (n lo hi : Int) (w : World) : Calls Tryz.prog 108 #[.bool has,.int .i64 n,.int .i64 lo,.int .i64 hi] w fun e w' => e = .returned (.bool (fldB has n lo hi))∧w = w':=by
  cases has
  · go_enter Tryz.func108,Tryz.ntmps108
    go_wp2
    go_ret
    exact ⟨rfl,rfl⟩
  · by_cases h1 : lo ≤ n <;> by_cases h2 : n ≤ hi
    all_goals
      go_enter Tryz.func108,Tryz.ntmps108
      go_wp2
      all_goals go_ret
      all_goals exact ⟨by simp [fldB,inB,h1,h2] <;> omega,rfl⟩
def HasP (k : Int) (w : World) (e : Ending) (w' : World) : Prop:=e = .returned (.slice (some ⟨w.heap.size,0,none⟩) 6 6)∧w' = w.alloc (.cells ((hasR k).map Value.bool).toArray 4)
theorem zsn (k : Int) (w : World) (h1 : 1 ≤ k) (h2 : k ≤ 11) : Calls Tryz.prog 107 #[.int .i64 k] w (HasP k w):=by
  have hk : k = 1 ∨ k = 2 ∨ k = 3 ∨ k = 4 ∨ k = 5 ∨ k = 6 ∨ k = 7 ∨ k = 8 ∨ k = 9 ∨ k = 10 ∨ k = 11:=by omega
  clear h1 h2
  rcases hk with rfl | rfl | rfl | rfl | rfl | rfl | rfl | rfl | rfl | rfl | rfl
  all_goals
    go_enter Tryz.func107,Tryz.ntmps107
    go_wp2
    go_ret
    exact ⟨rfl,rfl⟩
end Go.Proofs.YtdbmkfmenfcbiaaGreat
namespace Go.Proofs.YtdbmkfmenfcbiaaGreat
open Go.RowKit Go.Deep
theorem s_Clamp (n lo hi : Int) (w : World) (h : lo ≤ hi) : Calls Tryz.prog 158 #[.int .i64 n,.int .i64 lo,.int .i64 hi] w fun e w' => e = .returned (.int .i64 (max lo (min n hi)))∧w = w':=by
 by_cases h1 : n < lo
 ·
  go_enter Tryz.func158,Tryz.ntmps158
  go_wp2
  go_ret
  exact ⟨zqz (by omega),rfl⟩
 ·
  by_cases h2 : hi < n
  all_goals
   go_enter Tryz.func158,Tryz.ntmps158
   go_wp2
   go_ret
   exact ⟨zqz (by omega),rfl⟩
theorem s_ScoreUp (n : Int) (w : World) : Calls Tryz.prog 114 #[.int .i64 n] w fun e w' => e = .returned (.int .i64 (upF n))∧w = w':=by
 cases h : inB n (-100) 100
 ·
  have HE:=hd_ (show upF n = 0 by unfold upF;rw [h];rfl)
  go_enter Tryz.func114,Tryz.ntmps114
  go_wp2_with (go_at_call 58;refine (zxb _ _).mono ?_;rintro e w' ⟨rfl,rfl⟩)
  go_ret
  exact ⟨zqz HE.out.symm,rfl⟩
 ·
  have HE:=hd_ (show upF n = min (n + 10) 100 by unfold upF;rw [h];rfl)
  obtain ⟨h1,h2⟩:=zji.1 h
  go_enter Tryz.func114,Tryz.ntmps114
  go_wp2_with (first | (go_at_call 58;refine (zxb _ _).mono ?_;rintro e w' ⟨rfl,rfl⟩) | (go_at_call 158;refine (s_Clamp _ _ _ _ (by decide)).mono ?_;rintro e w' ⟨rfl,rfl⟩))
  go_ret
  exact ⟨zqz (by rw [HE.out];omega),rfl⟩
theorem zgk (n : Int) (w : World) : Calls Tryz.prog 115 #[.int .i64 n] w fun e w' => e = .returned (.int .i64 (downF n))∧w = w':=by
 cases h : inB n (-100) 100
 ·
  have HE:=hd_ (show downF n = 0 by unfold downF;rw [h];rfl)
  go_enter Tryz.func115,Tryz.ntmps115
  go_wp2_with (go_at_call 58;refine (zxb _ _).mono ?_;rintro e w' ⟨rfl,rfl⟩)
  go_ret
  exact ⟨zqz HE.out.symm,rfl⟩
 ·
  have HE:=hd_ (show downF n = max (n - 15) (-100) by unfold downF;rw [h];rfl)
  obtain ⟨h1,h2⟩:=zji.1 h
  go_enter Tryz.func115,Tryz.ntmps115
  go_wp2_with (first | (go_at_call 58;refine (zxb _ _).mono ?_;rintro e w' ⟨rfl,rfl⟩) | (go_at_call 158;refine (s_Clamp _ _ _ _ (by decide)).mono ?_;rintro e w' ⟨rfl,rfl⟩))
  go_ret
  exact ⟨zqz (by rw [HE.out];omega),rfl⟩
theorem zgl (n : Int) (w : World) : Calls Tryz.prog 116 #[.int .i64 n] w fun e w' => e = .returned (.int .i64 (fadeF n))∧w = w':=by
 cases h : inB n (-100) 100
 ·
  have HE:=hd_ (show fadeF n = 0 by unfold fadeF;rw [h];rfl)
  go_enter Tryz.func116,Tryz.ntmps116
  go_wp2_with (go_at_call 58;refine (zxb _ _).mono ?_;rintro e w' ⟨rfl,rfl⟩)
  go_ret
  exact ⟨zqz HE.out.symm,rfl⟩
 ·
  have HE:=hd_ (show fadeF n = if 0 < n then n - 1 else if n < 0 then n + 1 else 0 by unfold fadeF;rw [h];rfl)
  obtain ⟨h1,h2⟩:=zji.1 h
  by_cases h0 : n = 0
  ·
   subst h0
   go_enter Tryz.func116,Tryz.ntmps116
   go_wp2_with (go_at_call 58;refine (zxb _ _).mono ?_;rintro e w' ⟨rfl,rfl⟩)
   go_ret
   exact ⟨zqz HE.out.symm,rfl⟩
  ·
   have t0 : (n == 0) = false:=by simpa using h0
   by_cases hp : 0 < n
   ·
    have HF:=hd_ (show fadeF n = n - 1 by rw [HE.out,if_pos hp])
    clear h0
    go_enter Tryz.func116,Tryz.ntmps116
    go_wp2_with (go_at_call 58;refine (zxb _ _).mono ?_;rintro e w' ⟨rfl,rfl⟩)
    go_ret
    exact ⟨zqz HF.out.symm,rfl⟩
   ·
    have HF:=hd_ (show fadeF n = n + 1 by rw [HE.out,if_neg hp,if_pos (by omega)])
    clear h0
    go_enter Tryz.func116,Tryz.ntmps116
    go_wp2_with (go_at_call 58;refine (zxb _ _).mono ?_;rintro e w' ⟨rfl,rfl⟩)
    go_ret
    exact ⟨zqz HF.out.symm,rfl⟩
theorem s_Standing (n : Int) (y : Bool) (w : World) : Calls Tryz.prog 157 #[.int .i64 n,.bool y] w fun e w' => e = .returned (.bool (standB n y))∧w = w':=by
 cases h : inB n (-100) 100
 ·
  have HE:=hd_ (show standB n y = false by unfold standB;rw [h];rfl)
  go_enter Tryz.func157,Tryz.ntmps157
  go_wp2_with (go_at_call 58;refine (zxb _ _).mono ?_;rintro e w' ⟨rfl,rfl⟩)
  go_ret
  exact ⟨zqh HE.out.symm,rfl⟩
 ·
  by_cases h2 : 20 ≤ n
  ·
   have HE:=hd_ (show standB n y = y by unfold standB;rw [h,decide_eq_true h2];rfl)
   go_enter Tryz.func157,Tryz.ntmps157
   go_wp2_with (go_at_call 58;refine (zxb _ _).mono ?_;rintro e w' ⟨rfl,rfl⟩)
   go_ret
   exact ⟨zqh HE.out.symm,rfl⟩
  ·
   have HE:=hd_ (show standB n y = false by unfold standB;rw [decide_eq_false h2,Bool.and_false];rfl)
   have t2 : decide (n ≥ 20) = false:=decide_eq_false (by omega)
   go_enter Tryz.func157,Tryz.ntmps157
   go_wp2_with (go_at_call 58;refine (zxb _ _).mono ?_;rintro e w' ⟨rfl,rfl⟩)
   go_ret
   exact ⟨zqh HE.out.symm,rfl⟩
theorem s_Allow (size few all sf s amt : Int) (good : Bool) (w : World) (b1 : -1000 ≤ sf∧sf ≤ 1000) (b2 : -1000 ≤ s∧s ≤ 1000) :
  Calls Tryz.prog 156 #[.int .i64 size,.int .i64 few,.int .i64 all,.int .i64 sf,.int .i64 s,.int .i64 amt,.bool good] w fun e w' => e = .returned (.int .i64 (allowF size few all sf s amt good))∧w = w':=by
 have none : ∀ h : (amtB size && amtB few && amtB all && amtB amt && decide (0 ≤ sf) && decide (0 ≤ s) && decide (few ≤ all) && decide (sf ≤ s)) = false,allowF size few all sf s amt good = 0:=fun h => by unfold allowF;rw [if_pos h]
 cases h1 : amtB size
 ·
  have HE:=hd_ (none (by rw [h1];rfl))
  clear none
  go_enter Tryz.func156,Tryz.ntmps156
  go_wp2_with (go_at_call 56;refine (zqu _ _).mono ?_;rintro e w' ⟨rfl,rfl⟩)
  go_ret
  exact ⟨zqz HE.out.symm,rfl⟩
 cases h2 : amtB few
 ·
  have HE:=hd_ (none (by rw [h2];simp))
  clear none
  go_enter Tryz.func156,Tryz.ntmps156
  go_wp2_with (go_at_call 56;refine (zqu _ _).mono ?_;rintro e w' ⟨rfl,rfl⟩)
  go_ret
  exact ⟨zqz HE.out.symm,rfl⟩
 cases h3 : amtB all
 ·
  have HE:=hd_ (none (by rw [h3];simp))
  clear none
  go_enter Tryz.func156,Tryz.ntmps156
  go_wp2_with (go_at_call 56;refine (zqu _ _).mono ?_;rintro e w' ⟨rfl,rfl⟩)
  go_ret
  exact ⟨zqz HE.out.symm,rfl⟩
 cases h4 : amtB amt
 ·
  have HE:=hd_ (none (by rw [h4];simp))
  clear none
  go_enter Tryz.func156,Tryz.ntmps156
  go_wp2_with (go_at_call 56;refine (zqu _ _).mono ?_;rintro e w' ⟨rfl,rfl⟩)
  go_ret
  exact ⟨zqz HE.out.symm,rfl⟩
 by_cases h5 : sf < 0
 ·
  have HE:=hd_ (none (by rw [decide_eq_false (show ¬ 0 ≤ sf by omega)];simp))
  clear none
  go_enter Tryz.func156,Tryz.ntmps156
  go_wp2_with (go_at_call 56;refine (zqu _ _).mono ?_;rintro e w' ⟨rfl,rfl⟩)
  go_ret
  exact ⟨zqz HE.out.symm,rfl⟩
 by_cases h6 : s < 0
 ·
  have HE:=hd_ (none (by rw [decide_eq_false (show ¬ 0 ≤ s by omega)];simp))
  clear none
  have t5 : decide (sf < 0) = false:=decide_eq_false h5
  go_enter Tryz.func156,Tryz.ntmps156
  go_wp2_with (go_at_call 56;refine (zqu _ _).mono ?_;rintro e w' ⟨rfl,rfl⟩)
  go_ret
  exact ⟨zqz HE.out.symm,rfl⟩
 have t5 : decide (sf < 0) = false:=decide_eq_false h5
 have t6 : decide (s < 0) = false:=decide_eq_false h6
 by_cases h7 : all < few
 ·
  have HE:=hd_ (none (by rw [decide_eq_false (show ¬ few ≤ all by omega)];simp))
  clear none
  go_enter Tryz.func156,Tryz.ntmps156
  go_wp2_with (go_at_call 56;refine (zqu _ _).mono ?_;rintro e w' ⟨rfl,rfl⟩)
  go_ret
  exact ⟨zqz HE.out.symm,rfl⟩
 have t7 : decide (few > all) = false:=decide_eq_false (by omega)
 by_cases h8 : s < sf
 ·
  have HE:=hd_ (none (by rw [decide_eq_false (show ¬ sf ≤ s by omega)];simp))
  clear none
  go_enter Tryz.func156,Tryz.ntmps156
  go_wp2_with (go_at_call 56;refine (zqu _ _).mono ?_;rintro e w' ⟨rfl,rfl⟩)
  go_ret
  exact ⟨zqz HE.out.symm,rfl⟩
 have t8 : decide (sf > s) = false:=decide_eq_false (by omega)
 clear none
 have HA:=hd_ (show allowF size few all sf s amt good = if 10 ≤ s ∨ size < all + amt then 0 else if sf < 5∧few + amt ≤ size / 2 then 1 else if good = true then 2 else 0 by
  unfold allowF
  rw [if_neg]
  rw [h1,h2,h3,h4,decide_eq_true (show 0 ≤ sf by omega),decide_eq_true (show 0 ≤ s by omega),decide_eq_true (show few ≤ all by omega),decide_eq_true (show sf ≤ s by omega)]
  simp)
 obtain ⟨x1,y1⟩:=zxu.1 h1
 obtain ⟨x2,y2⟩:=zxu.1 h2
 obtain ⟨x3,y3⟩:=zxu.1 h3
 obtain ⟨x4,y4⟩:=zxu.1 h4
 by_cases g1 : 10 ≤ s
 ·
  have HE:=hd_ (show allowF size few all sf s amt good = 0 by rw [HA.out,if_pos (Or.inl g1)])
  go_enter Tryz.func156,Tryz.ntmps156
  go_wp2_with (go_at_call 56;refine (zqu _ _).mono ?_;rintro e w' ⟨rfl,rfl⟩)
  go_ret
  exact ⟨zqz HE.out.symm,rfl⟩
 have t9 : decide (s ≥ 10) = false:=decide_eq_false (by omega)
 by_cases g2 : size < all + amt
 ·
  have HE:=hd_ (show allowF size few all sf s amt good = 0 by rw [HA.out,if_pos (Or.inr g2)])
  go_enter Tryz.func156,Tryz.ntmps156
  go_wp2_with (go_at_call 56;refine (zqu _ _).mono ?_;rintro e w' ⟨rfl,rfl⟩)
  go_ret
  exact ⟨zqz HE.out.symm,rfl⟩
 have u2 : decide (all + amt > size) = false:=decide_eq_false (by omega)
 have HB:=hd_ (show allowF size few all sf s amt good = if sf < 5∧few + amt ≤ size / 2 then 1 else if good = true then 2 else 0 by rw [HA.out,if_neg (by omega)])
 by_cases g3 : sf < 5
 ·
  by_cases g4 : few + amt ≤ size / 2
  ·
   have HE:=hd_ (show allowF size few all sf s amt good = 1 by rw [HB.out,if_pos ⟨g3,g4⟩])
   go_enter Tryz.func156,Tryz.ntmps156
   go_wp2_with (go_at_call 56;refine (zqu _ _).mono ?_;rintro e w' ⟨rfl,rfl⟩)
   go_ret
   exact ⟨zqz HE.out.symm,rfl⟩
  ·
   have u4 : decide (few + amt ≤ size / 2) = false:=decide_eq_false g4
   cases good
   ·
    have HE:=hd_ (show allowF size few all sf s amt false = 0 by rw [HB.out,if_neg (fun h => g4 h.2)];rfl)
    go_enter Tryz.func156,Tryz.ntmps156
    go_wp2_with (go_at_call 56;refine (zqu _ _).mono ?_;rintro e w' ⟨rfl,rfl⟩)
    go_ret
    exact ⟨zqz HE.out.symm,rfl⟩
   ·
    have HE:=hd_ (show allowF size few all sf s amt true = 2 by rw [HB.out,if_neg (fun h => g4 h.2)];rfl)
    go_enter Tryz.func156,Tryz.ntmps156
    go_wp2_with (go_at_call 56;refine (zqu _ _).mono ?_;rintro e w' ⟨rfl,rfl⟩)
    go_ret
    exact ⟨zqz HE.out.symm,rfl⟩
 ·
  have u3 : decide (sf < 5) = false:=decide_eq_false g3
  cases good
  ·
   have HE:=hd_ (show allowF size few all sf s amt false = 0 by rw [HB.out,if_neg (fun h => g3 h.1)];rfl)
   go_enter Tryz.func156,Tryz.ntmps156
   go_wp2_with (go_at_call 56;refine (zqu _ _).mono ?_;rintro e w' ⟨rfl,rfl⟩)
   go_ret
   exact ⟨zqz HE.out.symm,rfl⟩
  ·
   have HE:=hd_ (show allowF size few all sf s amt true = 2 by rw [HB.out,if_neg (fun h => g3 h.1)];rfl)
   go_enter Tryz.func156,Tryz.ntmps156
   go_wp2_with (go_at_call 56;refine (zqu _ _).mono ?_;rintro e w' ⟨rfl,rfl⟩)
   go_ret
   exact ⟨zqz HE.out.symm,rfl⟩
theorem zwl {ppm n : Int} (hn : 0 ≤ n∧n ≤ 1125899906842624) (hp : 0 ≤ ppm∧ppm ≤ 1000000) : divB n ppm 1000000 = true∧0 ≤ n * ppm / 1000000∧n * ppm / 1000000 ≤ 1125899906842624∧0 ≤ n * ppm % 1000000∧n * ppm % 1000000 < 1000000:=by
 have h1 : n * ppm ≤ 1125899906842624 * 1000000:=Int.mul_le_mul hn.2 hp.2 hp.1 (by omega)
 have h0 : 0 ≤ n * ppm:=Int.mul_nonneg hn.1 hp.1
 obtain ⟨m,hm⟩ : ∃ m,n * ppm = m:=⟨_,rfl⟩
 unfold divB
 rw [hm] at h1 h0 ⊢
 refine ⟨decide_eq_true (by omega),by omega,by omega,by omega,by omega⟩
theorem zwz {base ppm n : Int} (h : (amtB base && amtB n && inB ppm 0 1000000) = false) : feeOk base ppm n = false∧feeV base ppm n = 0:=by
 have h2 : feeOk base ppm n = false:=by unfold feeOk;rw [h];rfl
 exact ⟨h2,by unfold feeV;rw [h2];rfl⟩
set_option maxHeartbeats 1000000 in
theorem s_l01Fee (base ppm n : Int) (w : World) : Calls Tryz.prog 155 #[.int .i64 base,.int .i64 ppm,.int .i64 n,.bool true] w fun e w' => e = .returned (.tuple #[.int .i64 (feeV base ppm n),.bool (feeOk base ppm n)])∧w = w':=by
 cases h1 : amtB base
 ·
  have HE:=hd_ (zwz (base:=base) (ppm:=ppm) (n:=n) (by rw [h1];rfl))
  go_enter Tryz.func155,Tryz.ntmps155
  go_wp2_with (go_at_call 56;refine (zqu _ _).mono ?_;rintro e w' ⟨rfl,rfl⟩)
  go_ret2
  exact ⟨by rw [HE.out.1,HE.out.2];rfl,rfl⟩
 cases h2 : amtB n
 ·
  have HE:=hd_ (zwz (base:=base) (ppm:=ppm) (n:=n) (by rw [h2];simp))
  go_enter Tryz.func155,Tryz.ntmps155
  go_wp2_with (go_at_call 56;refine (zqu _ _).mono ?_;rintro e w' ⟨rfl,rfl⟩)
  go_ret2
  exact ⟨by rw [HE.out.1,HE.out.2];rfl,rfl⟩
 by_cases h3 : ppm < 0
 ·
  have HE:=hd_ (zwz (base:=base) (ppm:=ppm) (n:=n) (by rw [show inB ppm 0 1000000 = false by unfold inB;exact decide_eq_false (by omega)];simp))
  go_enter Tryz.func155,Tryz.ntmps155
  go_wp2_with (go_at_call 56;refine (zqu _ _).mono ?_;rintro e w' ⟨rfl,rfl⟩)
  go_ret2
  exact ⟨by rw [HE.out.1,HE.out.2];rfl,rfl⟩
 have t3 : decide (ppm < 0) = false:=decide_eq_false h3
 by_cases h4 : 1000000 < ppm
 ·
  have HE:=hd_ (zwz (base:=base) (ppm:=ppm) (n:=n) (by rw [show inB ppm 0 1000000 = false by unfold inB;exact decide_eq_false (by omega)];simp))
  go_enter Tryz.func155,Tryz.ntmps155
  go_wp2_with (go_at_call 56;refine (zqu _ _).mono ?_;rintro e w' ⟨rfl,rfl⟩)
  go_ret2
  exact ⟨by rw [HE.out.1,HE.out.2];rfl,rfl⟩
 have t4 : decide (ppm > 1000000) = false:=decide_eq_false (by omega)
 obtain ⟨a1,a2⟩:=zxu.1 h1
 obtain ⟨n1,n2⟩:=zxu.1 h2
 obtain ⟨d0,d1,d2,d3,d4⟩:=zwl (ppm:=ppm) (n:=n) ⟨n1,n2⟩ ⟨by omega,by omega⟩
 have HQ:=hd_ (show divQ n ppm 1000000 = n * ppm / 1000000 by unfold divQ;rw [if_pos d0])
 have HR:=hd_ (show divR n ppm 1000000 = n * ppm % 1000000 by unfold divR;rw [if_pos d0])
 have HD:=hd_ d0
 have HOk:=hd_ (show feeOk base ppm n = (amtB (feeQ ppm n) && amtB (base + feeQ ppm n)) by
  unfold feeOk
  rw [h1,h2,show inB ppm 0 1000000 = true from zji.2 ⟨by omega,by omega⟩]
  rfl)
 have HV:=hd_ (show feeV base ppm n = if feeOk base ppm n = true then base + feeQ ppm n else 0 from rfl)
 have HQF:=hd_ (show feeQ ppm n = n * ppm / 1000000 + (if 0 < n * ppm % 1000000 then 1 else 0) from rfl)
 obtain ⟨q,hq⟩ : ∃ q,n * ppm / 1000000 = q:=⟨_,rfl⟩
 obtain ⟨r,hr⟩ : ∃ r,n * ppm % 1000000 = r:=⟨_,rfl⟩
 rw [hq] at d1 d2 HQ HQF
 rw [hr] at d3 d4 HR HQF
 clear d0 hq hr
 by_cases hr0 : 0 < r
 ·
  have HF:=hd_ (show feeQ ppm n = q + 1 by rw [HQF.out,if_pos hr0])
  go_enter Tryz.func155,Tryz.ntmps155
  go_wp2_with (go_at_call 56;refine (zqu _ _).mono ?_;rintro e w' ⟨rfl,rfl⟩)
  refine (zsm n ppm 1000000 _ ⟨n1,n2⟩ ⟨by omega,by omega⟩ (by decide)).mono ?_
  rintro e w' ⟨rfl,rfl⟩
  rw [HQ.out,HR.out,HD.out]
  go_wp2_with fail
  cases hs : (amtB base && amtB (q + 1) && amtB (base + (q + 1)))
  ·
   have HO2:=hd_ (show feeOk base ppm n = false by rw [HOk.out,HF.out];simpa [h1] using hs)
   refine (zjr _ _ _ hs).mono ?_
   rintro e w' ⟨rfl,rfl⟩
   go_wp2_with fail
   go_ret2
   exact ⟨by rw [HV.out,HO2.out];rfl,rfl⟩
  ·
   simp only [Bool.and_eq_true] at hs
   have HO2:=hd_ (show feeOk base ppm n = true by rw [HOk.out,HF.out,hs.1.2,hs.2];rfl)
   refine (zjm _ _ _ hs.1.1 hs.1.2 hs.2).mono ?_
   rintro e w' ⟨rfl,rfl⟩
   go_wp2_with fail
   go_ret2
   exact ⟨by rw [HV.out,HO2.out,if_pos rfl,HF.out];rfl,rfl⟩
 ·
  have HF:=hd_ (show feeQ ppm n = q by rw [HQF.out,if_neg hr0,Int.add_zero])
  have tr : decide (r > 0) = false:=decide_eq_false (by omega)
  go_enter Tryz.func155,Tryz.ntmps155
  go_wp2_with (go_at_call 56;refine (zqu _ _).mono ?_;rintro e w' ⟨rfl,rfl⟩)
  refine (zsm n ppm 1000000 _ ⟨n1,n2⟩ ⟨by omega,by omega⟩ (by decide)).mono ?_
  rintro e w' ⟨rfl,rfl⟩
  rw [HQ.out,HR.out,HD.out]
  go_wp2_with fail
  cases hs : (amtB base && amtB q && amtB (base + q))
  ·
   have HO2:=hd_ (show feeOk base ppm n = false by rw [HOk.out,HF.out];simpa [h1] using hs)
   refine (zjr _ _ _ hs).mono ?_
   rintro e w' ⟨rfl,rfl⟩
   go_wp2_with fail
   go_ret2
   exact ⟨by rw [HV.out,HO2.out];rfl,rfl⟩
  ·
   simp only [Bool.and_eq_true] at hs
   have HO2:=hd_ (show feeOk base ppm n = true by rw [HOk.out,HF.out,hs.1.2,hs.2];rfl)
   refine (zjm _ _ _ hs.1.1 hs.1.2 hs.2).mono ?_
   rintro e w' ⟨rfl,rfl⟩
   go_wp2_with fail
   go_ret2
   exact ⟨by rw [HV.out,HO2.out,if_pos rfl,HF.out];rfl,rfl⟩
theorem s_FeeUp (base ppm n : Int) (w : World) : Calls Tryz.prog 111 #[.int .i64 base,.int .i64 ppm,.int .i64 n] w fun e w' => e = .returned (.tuple #[.int .i64 (feeV base ppm n),.bool (feeOk base ppm n)])∧w = w':=by
 go_enter Tryz.func111,Tryz.ntmps111
 go_wp2_with fail
 refine (s_l01Fee _ _ _ _).mono ?_
 rintro e w' ⟨rfl,rfl⟩
 go_wp2_with fail
 go_ret2
 exact ⟨rfl,rfl⟩
end Go.Proofs.YtdbmkfmenfcbiaaGreat
namespace Go.Proofs.YtdbmkfmenfcbiaaGreat
open Go.RowKit Go.Deep
def wkTs (T : TypeId) : List TypeId:=[T,103,70,93,99]
def wkCells (b : Bk) (L : List Line) (code : Int) (A1 A2 A3 A4 : Option Addr) (p1 p2 p3 p4 : Nat) : Array Value :=
 #[.int .i64 b.t,.int .i64 b.n,.int .i64 b.w,.slice A1 b.cs.length p1,.slice A2 b.hs.length p2,.slice A3 b.os.length p3,.slice A4 L.length p4,.int .i64 code]
structure Wk (T : TypeId) (w0 w : World) (B X : Nat) (b : Bk) (L : List Line) (code : Int) (A1 A2 A3 A4 : Option Addr) (p1 p2 p3 p4 : Nat) : Prop where
 x : w.heap[X]? = some (.cells #[.int .i64 b.t,.int .i64 b.n,.int .i64 b.w,.slice A1 b.cs.length p1,.slice A2 b.hs.length p2,.slice A3 b.os.length p3,.slice A4 L.length p4,.int .i64 code] T (0,0))
 o : OwB w B b A1 A2 A3 p1 p2 p3
 l : Ow w B 99 3 (.slice A4 L.length p4) (L.map Line.cells)
 b : Below B w0 w
 f : Fr (wkTs T) w0 w
 bx : B ≤ X
section
variable {T : TypeId} {w0 w w' : World} {B X : Nat} {b : Bk} {L : List Line} {code : Int} {A1 A2 A3 A4 : Option Addr} {p1 p2 p3 p4 : Nat}
theorem Wk.lt (h : Wk T w0 w B X b L code A1 A2 A3 A4 p1 p2 p3 p4) : X < w.heap.size:=(gz_ h.x).1
theorem Wk.ble (h : Wk T w0 w B X b L code A1 A2 A3 A4 p1 p2 p3 p4) : B ≤ w.heap.size:=by have:=h.lt;have:=h.bx;omega
theorem Wk.below (h : Wk T w0 w B X b L code A1 A2 A3 A4 p1 p2 p3 p4) (hb : Below w.heap.size w w') : Wk T w0 w' B X b L code A1 A2 A3 A4 p1 p2 p3 p4 :=
 ⟨(hb.block X h.lt).trans h.x,h.o.below hb,h.l.below hb,h.b.trans (hb.mono h.ble),h.f.below hb,h.bx⟩
theorem Wk.alloc (h : Wk T w0 w B X b L code A1 A2 A3 A4 p1 p2 p3 p4) (o : Obj) : Wk T w0 (w.alloc o) B X b L code A1 A2 A3 A4 p1 p2 p3 p4:=h.below ((Below.refl _ _).alloc (Nat.le_refl _) o)
theorem Wk.drew (h : Wk T w0 w B X b L code A1 A2 A3 A4 p1 p2 p3 p4) : Wk T w0 w.drew B X b L code A1 A2 A3 A4 p1 p2 p3 p4:=⟨h.x,h.o.drew,h.l,h.b.drew,h.f.drew,h.bx⟩
theorem Wk.here (h : Wk T w0 w B X b L code A1 A2 A3 A4 p1 p2 p3 p4) : Wk T w w B X b L code A1 A2 A3 A4 p1 p2 p3 p4:=⟨h.x,h.o,h.l,Below.refl _ _,Fr.refl _ _,h.bx⟩
theorem Wk.trans (h0 : Wk T w0 w B X b L code A1 A2 A3 A4 p1 p2 p3 p4) {b' : Bk} {L' : List Line} {code' : Int} {C1 C2 C3 C4 : Option Addr} {q1 q2 q3 q4 : Nat} (h : Wk T w w' B X b' L' code' C1 C2 C3 C4 q1 q2 q3 q4) : Wk T w0 w' B X b' L' code' C1 C2 C3 C4 q1 q2 q3 q4 :=
 ⟨h.x,h.o,h.l,h0.b.trans h.b,h0.f.trans h.f,h.bx⟩
theorem Wk.box (h : Wk T w w' B X b L code A1 A2 A3 A4 p1 p2 p3 p4) {k : Nat} {cs : Array Value} {t : TypeId} (hk : w.heap[k]? = some (.cells cs t (0,0))) (ht : t ∉ wkTs T) : w'.heap[k]? = some (.cells cs t (0,0)):=h.f.box hk ht
theorem Wk.cell (h : Wk T w0 w B X b L code A1 A2 A3 A4 p1 p2 p3 p4) (i : Nat) : w.cell? ⟨X,i,none⟩ = (wkCells b L code A1 A2 A3 A4 p1 p2 p3 p4)[i]?:=zqd h.x i
theorem Wk.open_ (h : Wk T w0 w B X b L code A1 A2 A3 A4 p1 p2 p3 p4) : w.cell? ⟨X,0,none⟩ = some (.int .i64 b.t)∧w.cell? ⟨X,1,none⟩ = some (.int .i64 b.n)∧w.cell? ⟨X,2,none⟩ = some (.int .i64 b.w)∧w.cell? ⟨X,3,none⟩ = some (.slice A1 b.cs.length p1)∧w.cell? ⟨X,4,none⟩ = some (.slice A2 b.hs.length p2)∧w.cell? ⟨X,5,none⟩ = some (.slice A3 b.os.length p3)∧w.cell? ⟨X,6,none⟩ = some (.slice A4 L.length p4)∧w.cell? ⟨X,7,none⟩ = some (.int .i64 code)∧(∀ i,w.frozen? ⟨X,i,none⟩ = false)∧X < w.heap.size :=
 ⟨zqd h.x 0,zqd h.x 1,zqd h.x 2,zqd h.x 3,zqd h.x 4,zqd h.x 5,zqd h.x 6,zqd h.x 7,zqo h.x,h.lt⟩
theorem Wk.set (h : Wk T w0 w B X b L code A1 A2 A3 A4 p1 p2 p3 p4) (hT1 : 103 ≠ T) (hT2 : 70 ≠ T) (hT3 : 93 ≠ T) (hT4 : 99 ≠ T) (i : Nat) (u : Value) :
  OwB (w.setCell ⟨X,i,none⟩ u) B b A1 A2 A3 p1 p2 p3∧Ow (w.setCell ⟨X,i,none⟩ u) B 99 3 (.slice A4 L.length p4) (L.map Line.cells)∧Below B w0 (w.setCell ⟨X,i,none⟩ u)∧Fr (wkTs T) w0 (w.setCell ⟨X,i,none⟩ u) :=
 ⟨h.o.aside h.x hT1 hT2 hT3 u,h.l.aside h.x hT4 u,h.b.setCell h.bx u,h.f.set h.x (by simp [wkTs]) u⟩
theorem Wk.setCode (h : Wk T w0 w B X b L code A1 A2 A3 A4 p1 p2 p3 p4) (hT1 : 103 ≠ T) (hT2 : 70 ≠ T) (hT3 : 93 ≠ T) (hT4 : 99 ≠ T) (c : Int) : Wk T w0 (w.setCell ⟨X,7,none⟩ (.int .i64 c)) B X b L c A1 A2 A3 A4 p1 p2 p3 p4 :=
 ⟨zqa h.x,(h.set hT1 hT2 hT3 hT4 7 _).1,(h.set hT1 hT2 hT3 hT4 7 _).2.1,(h.set hT1 hT2 hT3 hT4 7 _).2.2.1,(h.set hT1 hT2 hT3 hT4 7 _).2.2.2,h.bx⟩
theorem Wk.setWallet (h : Wk T w0 w B X b L code A1 A2 A3 A4 p1 p2 p3 p4) (hT1 : 103 ≠ T) (hT2 : 70 ≠ T) (hT3 : 93 ≠ T) (hT4 : 99 ≠ T) (c : Int) : Wk T w0 (w.setCell ⟨X,2,none⟩ (.int .i64 c)) B X ⟨b.t,b.n,c,b.cs,b.hs,b.os⟩ L code A1 A2 A3 A4 p1 p2 p3 p4 :=
 ⟨zqa h.x,⟨(h.set hT1 hT2 hT3 hT4 2 _).1.c,(h.set hT1 hT2 hT3 hT4 2 _).1.h,(h.set hT1 hT2 hT3 hT4 2 _).1.o⟩,(h.set hT1 hT2 hT3 hT4 2 _).2.1,(h.set hT1 hT2 hT3 hT4 2 _).2.2.1,(h.set hT1 hT2 hT3 hT4 2 _).2.2.2,h.bx⟩
theorem Wk.setTick (h : Wk T w0 w B X b L code A1 A2 A3 A4 p1 p2 p3 p4) (hT1 : 103 ≠ T) (hT2 : 70 ≠ T) (hT3 : 93 ≠ T) (hT4 : 99 ≠ T) (c : Int) : Wk T w0 (w.setCell ⟨X,0,none⟩ (.int .i64 c)) B X ⟨c,b.n,b.w,b.cs,b.hs,b.os⟩ L code A1 A2 A3 A4 p1 p2 p3 p4 :=
 ⟨zqa h.x,⟨(h.set hT1 hT2 hT3 hT4 0 _).1.c,(h.set hT1 hT2 hT3 hT4 0 _).1.h,(h.set hT1 hT2 hT3 hT4 0 _).1.o⟩,(h.set hT1 hT2 hT3 hT4 0 _).2.1,(h.set hT1 hT2 hT3 hT4 0 _).2.2.1,(h.set hT1 hT2 hT3 hT4 0 _).2.2.2,h.bx⟩
theorem Wk.setNext (h : Wk T w0 w B X b L code A1 A2 A3 A4 p1 p2 p3 p4) (hT1 : 103 ≠ T) (hT2 : 70 ≠ T) (hT3 : 93 ≠ T) (hT4 : 99 ≠ T) (c : Int) : Wk T w0 (w.setCell ⟨X,1,none⟩ (.int .i64 c)) B X ⟨b.t,c,b.w,b.cs,b.hs,b.os⟩ L code A1 A2 A3 A4 p1 p2 p3 p4 :=
 ⟨zqa h.x,⟨(h.set hT1 hT2 hT3 hT4 1 _).1.c,(h.set hT1 hT2 hT3 hT4 1 _).1.h,(h.set hT1 hT2 hT3 hT4 1 _).1.o⟩,(h.set hT1 hT2 hT3 hT4 1 _).2.1,(h.set hT1 hT2 hT3 hT4 1 _).2.2.1,(h.set hT1 hT2 hT3 hT4 1 _).2.2.2,h.bx⟩
theorem Wk.setC (h : Wk T w0 w B X b L code A1 A2 A3 A4 p1 p2 p3 p4) (hT1 : 103 ≠ T) (hT2 : 70 ≠ T) (hT3 : 93 ≠ T) (hT4 : 99 ≠ T) {cs : List Chan} {C : Option Addr} {q : Nat} (hC : Ow w B 103 7 (.slice C cs.length q) (cs.map Chan.cells)) :
  Wk T w0 (w.setCell ⟨X,3,none⟩ (.slice C cs.length q)) B X ⟨b.t,b.n,b.w,cs,b.hs,b.os⟩ L code C A2 A3 A4 q p2 p3 p4 :=
 ⟨zqa h.x,⟨hC.aside h.x hT1 _,(h.set hT1 hT2 hT3 hT4 3 _).1.h,(h.set hT1 hT2 hT3 hT4 3 _).1.o⟩,(h.set hT1 hT2 hT3 hT4 3 _).2.1,(h.set hT1 hT2 hT3 hT4 3 _).2.2.1,(h.set hT1 hT2 hT3 hT4 3 _).2.2.2,h.bx⟩
theorem Wk.setH (h : Wk T w0 w B X b L code A1 A2 A3 A4 p1 p2 p3 p4) (hT1 : 103 ≠ T) (hT2 : 70 ≠ T) (hT3 : 93 ≠ T) (hT4 : 99 ≠ T) {hs : List Htlc} {C : Option Addr} {q : Nat} (hC : Ow w B 70 7 (.slice C hs.length q) (hs.map Htlc.cells)) :
  Wk T w0 (w.setCell ⟨X,4,none⟩ (.slice C hs.length q)) B X ⟨b.t,b.n,b.w,b.cs,hs,b.os⟩ L code A1 C A3 A4 p1 q p3 p4 :=
 ⟨zqa h.x,⟨(h.set hT1 hT2 hT3 hT4 4 _).1.c,hC.aside h.x hT2 _,(h.set hT1 hT2 hT3 hT4 4 _).1.o⟩,(h.set hT1 hT2 hT3 hT4 4 _).2.1,(h.set hT1 hT2 hT3 hT4 4 _).2.2.1,(h.set hT1 hT2 hT3 hT4 4 _).2.2.2,h.bx⟩
theorem Wk.setO (h : Wk T w0 w B X b L code A1 A2 A3 A4 p1 p2 p3 p4) (hT1 : 103 ≠ T) (hT2 : 70 ≠ T) (hT3 : 93 ≠ T) (hT4 : 99 ≠ T) {os : List Circle} {C : Option Addr} {q : Nat} (hC : Ow w B 93 5 (.slice C os.length q) (os.map Circle.cells)) :
  Wk T w0 (w.setCell ⟨X,5,none⟩ (.slice C os.length q)) B X ⟨b.t,b.n,b.w,b.cs,b.hs,os⟩ L code A1 A2 C A4 p1 p2 q p4 :=
 ⟨zqa h.x,⟨(h.set hT1 hT2 hT3 hT4 5 _).1.c,(h.set hT1 hT2 hT3 hT4 5 _).1.h,hC.aside h.x hT3 _⟩,(h.set hT1 hT2 hT3 hT4 5 _).2.1,(h.set hT1 hT2 hT3 hT4 5 _).2.2.1,(h.set hT1 hT2 hT3 hT4 5 _).2.2.2,h.bx⟩
theorem Wk.setL (h : Wk T w0 w B X b L code A1 A2 A3 A4 p1 p2 p3 p4) (hT1 : 103 ≠ T) (hT2 : 70 ≠ T) (hT3 : 93 ≠ T) (hT4 : 99 ≠ T) {L' : List Line} {C : Option Addr} {q : Nat} (hC : Ow w B 99 3 (.slice C L'.length q) (L'.map Line.cells)) :
  Wk T w0 (w.setCell ⟨X,6,none⟩ (.slice C L'.length q)) B X b L' code A1 A2 A3 C p1 p2 p3 q :=
 ⟨zqa h.x,(h.set hT1 hT2 hT3 hT4 6 _).1,hC.aside h.x hT4 _,(h.set hT1 hT2 hT3 hT4 6 _).2.2.1,(h.set hT1 hT2 hT3 hT4 6 _).2.2.2,h.bx⟩
end
end Go.Proofs.YtdbmkfmenfcbiaaGreat
namespace Go.Proofs.YtdbmkfmenfcbiaaGreat
open Go.RowKit Go.Deep
set_option maxRecDepth 100000 in
set_option maxHeartbeats 4000000 in
theorem zhy (bt bn bw : Int) (cs : List Chan) (hs : List Htlc) (os : List Circle) (A1 A2 A3 : Option Addr) (p1 p2 p3 : Nat) (ch : Int) (w : World) (h60 : hs.length ≤ 60) (h20 : os.length ≤ 20) (hr : RdBook w w.heap.size A1 cs A2 hs A3 os) :
  Calls Tryz.prog 110 #[.agg #[.int .i64 bt,.int .i64 bn,.int .i64 bw,.slice A1 cs.length p1,.slice A2 hs.length p2,.slice A3 os.length p3],.int .i64 ch] w fun e w' => e = .returned (.bool (busyB hs os ch))∧Below w.heap.size w w':=by
 have HH:=hd_ hr.h
 have HO:=hd_ hr.o
 clear hr
 go_enter Tryz.func110,Tryz.ntmps110
 go_wp2_with fail
 go_loopw [12] (fun i wr => ∃ k : Nat,k ≤ hs.length∧i = .int .i64 k∧Hid ((hs.take k).any (usesH ch) = false)∧wr.heap[w.heap.size]? = some (.cells #[.int .i64 bt,.int .i64 bn,.int .i64 bw,.slice A1 cs.length p1,.slice A2 hs.length p2,.slice A3 os.length p3] 39 (0,0))∧Below w.heap.size w wr) (fun i _ => hs.length - (intOf i).toNat)
 case atStart => exact ⟨0,Nat.zero_le _,rfl,hd_ rfl,zqk rfl,bl_⟩
 case round =>
  obtain ⟨k,hk,rfl,HA,hbox,hbw⟩:=hrel
  have hbz:=hbw.size
  obtain ⟨eh,e0,e1,e2,e3,e4,e5,ef,ezz⟩:=own6 (Below.refl wr.heap.size wr) (gz_ hbox).1 hbox
  have EH:=hd_ eh
  clear eh hbox
  by_cases hlt : k < hs.length
  ·
   obtain ⟨b,off,rfl,hbB,c0,c1,c2,c3,c4,c5,c6⟩:=Htlc.rd (HH.out.below hbw) hlt
   clear e0 e1 e2 e3 e4 e5 ef
   have Fx:=hd_ (zjg hs (usesH ch) hlt)
   have HT:=hd_ (fun hp => zvd hs (usesH ch) hlt hp)
   cases t1 : (hs[k].In == ch)
   ·
    cases t2 : (hs[k].Out == ch)
    ·
     have Kx:=hd_ (show usesH ch hs[k] = false by simp only [usesH,t1,t2];rfl)
     go_wp2_with fail
     go_roundw
     case rel => exact ⟨k + 1,by omega,by go_num,hd_ (by rw [Fx.out,HA.out,Kx.out];rfl),zqe ezz EH.out,bl_⟩
     case measure => simp [intOf];omega
    ·
     have Kx:=hd_ (show busyB hs os ch = true by unfold busyB;rw [HT.out (by simp only [usesH,t2,Bool.or_true])];rfl)
     go_wp2_with fail
     go_ret
     exact ⟨zqh Kx.out.symm,bl_⟩
   ·
    have Kx:=hd_ (show busyB hs os ch = true by unfold busyB;rw [HT.out (by simp only [usesH,t1,Bool.true_or])];rfl)
    go_wp2_with fail
    go_ret
    exact ⟨zqh Kx.out.symm,bl_⟩
  ·
   obtain rfl : k = hs.length:=by omega
   have qx:=HA.out
   rw [List.take_length] at qx
   have Qx:=hd_ qx
   clear qx
   go_wp2_with fail
   obtain ⟨wo,rfl⟩ : ∃ wo : World,wo = wr:=⟨_,rfl⟩
   go_loopw [30] (fun i wr => ∃ k : Nat,k ≤ os.length∧i = .int .i64 k∧Hid ((os.take k).any (usesC ch) = false)∧wr.heap[w.heap.size]? = some (.cells #[.int .i64 bt,.int .i64 bn,.int .i64 bw,.slice A1 cs.length p1,.slice A2 hs.length p2,.slice A3 os.length p3] 39 (0,0))∧Below w.heap.size w wr) (fun i _ => os.length - (intOf i).toNat)
   case atStart => exact ⟨0,Nat.zero_le _,rfl,hd_ rfl,EH.out,bl_⟩
   case round =>
    obtain ⟨k,hk,rfl,HA,hbox,hbw⟩:=hrel
    have hbz:=hbw.size
    obtain ⟨eh,e0,e1,e2,e3,e4,e5,ef,ezz⟩:=own6 (Below.refl wr.heap.size wr) (gz_ hbox).1 hbox
    have EH:=hd_ eh
    clear eh hbox
    by_cases hlt : k < os.length
    ·
     obtain ⟨b,off,rfl,hbB,c0,c1,c2,c3,c4⟩:=Circle.rd (HO.out.below hbw) hlt
     clear e0 e1 e2 e3 e4 e5 ef
     have Fx:=hd_ (zjg os (usesC ch) hlt)
     have HT:=hd_ (fun hp => zvd os (usesC ch) hlt hp)
     cases t1 : (os[k].From == ch)
     ·
      cases t2 : (os[k].To == ch)
      ·
       have Kx:=hd_ (show usesC ch os[k] = false by simp only [usesC,t1,t2];rfl)
       go_wp2_with fail
       go_roundw
       case rel => exact ⟨k + 1,by omega,by go_num,hd_ (by rw [Fx.out,HA.out,Kx.out];rfl),zqe ezz EH.out,bl_⟩
       case measure => simp [intOf];omega
      ·
       have Kx:=hd_ (show busyB hs os ch = true by unfold busyB;rw [HT.out (by simp only [usesC,t2,Bool.or_true])];simp)
       go_wp2_with fail
       go_ret
       exact ⟨zqh Kx.out.symm,bl_⟩
     ·
      have Kx:=hd_ (show busyB hs os ch = true by unfold busyB;rw [HT.out (by simp only [usesC,t1,Bool.true_or])];simp)
      go_wp2_with fail
      go_ret
      exact ⟨zqh Kx.out.symm,bl_⟩
    ·
     obtain rfl : k = os.length:=by omega
     have qy:=HA.out
     rw [List.take_length] at qy
     have Kx:=hd_ (show busyB hs os ch = false by unfold busyB;rw [Qx.out,qy];rfl)
     clear qy
     go_wp2_with fail
     go_ret
     exact ⟨zqh Kx.out.symm,bl_⟩
theorem Small.few_bd {hs : List Htlc} {os : List Circle} (s : Small hs os) (ch : Int) : ∀ k,k ≤ hs.length → 0 ≤ (hs.take k).foldl (fewH ch) 0∧(hs.take k).foldl (fewH ch) 0 ≤ (k : Int) * 1125899906842624
 | 0,_ => by simp
 | k + 1,hk => by
  obtain ⟨h1,h2⟩:=s.few_bd ch k (by omega)
  obtain ⟨⟨a,b⟩,_⟩:=s.h k (by omega)
  rw [zqp hs _ _ (by omega)]
  unfold fewH at h1 h2 ⊢
  split
  ·
   split <;> omega
  ·
   omega
theorem zgn {hs : List Htlc} (ch : Int) : ∀ k,k ≤ hs.length → 0 ≤ (hs.take k).foldl (slotH ch) 0∧(hs.take k).foldl (slotH ch) 0 ≤ (k : Int)
 | 0,_ => by simp
 | k + 1,hk => by
  obtain ⟨h1,h2⟩:=zgn (hs:=hs) ch k (by omega)
  rw [zqp hs _ _ (by omega)]
  unfold slotH at h1 h2 ⊢
  split <;> omega
theorem zwo {hs : List Htlc} (ch : Int) : ∀ k,k ≤ hs.length → 0 ≤ (hs.take k).foldl (slotFewH ch) 0∧(hs.take k).foldl (slotFewH ch) 0 ≤ (k : Int)
 | 0,_ => by simp
 | k + 1,hk => by
  obtain ⟨h1,h2⟩:=zwo (hs:=hs) ch k (by omega)
  rw [zqp hs _ _ (by omega)]
  unfold slotFewH at h1 h2 ⊢
  split
  ·
   split <;> omega
  ·
   omega
set_option maxRecDepth 100000 in
set_option maxHeartbeats 4000000 in
theorem zwh (bt bn bw : Int) (cs : List Chan) (hs : List Htlc) (os : List Circle) (A1 A2 A3 : Option Addr) (p1 p2 p3 : Nat) (ci co : Chan) (amt : Int) (yes : Bool) (w : World) (hsm : Small hs os) (hr : RdBook w w.heap.size A1 cs A2 hs A3 os) :
  Calls Tryz.prog 112 #[.agg #[.int .i64 bt,.int .i64 bn,.int .i64 bw,.slice A1 cs.length p1,.slice A2 hs.length p2,.slice A3 os.length p3],.agg #[.int .i64 ci.Id,.int .i64 ci.Size,.int .i64 ci.Local,.int .i64 ci.Remote,.int .i64 ci.Base,.int .i64 ci.Ppm,.int .i64 ci.Score],.agg #[.int .i64 co.Id,.int .i64 co.Size,.int .i64 co.Local,.int .i64 co.Remote,.int .i64 co.Base,.int .i64 co.Ppm,.int .i64 co.Score],.int .i64 amt,.bool yes] w fun e w' => e = .returned (.int .i64 (roomF hs co co.Id amt ci.Score yes))∧Below w.heap.size w w':=by
 have HH:=hd_ hr.h
 have HS:=hd_ hsm
 have h60:=hsm.hl
 clear hr hsm
 obtain ⟨ch,hch⟩ : ∃ ch,co.Id = ch:=⟨_,rfl⟩
 rw [hch]
 have HCH:=hd_ hch
 clear hch
 go_enter Tryz.func112,Tryz.ntmps112
 go_wp2_with fail
 go_loopw [11,12,13,14,20] (fun v1 v2 v3 v4 i wr => ∃ (k : Nat) (x1 x2 x3 x4 : Int),k ≤ hs.length∧i = .int .i64 k∧v1 = .int .i64 x1∧v2 = .int .i64 x2∧v3 = .int .i64 x3∧v4 = .int .i64 x4∧Hid ((hs.take k).foldl (fewH ch) 0 = x1)∧Hid ((hs.take k).foldl (outH ch) 0 = x2)∧Hid ((hs.take k).foldl (slotFewH ch) 0 = x3)∧Hid ((hs.take k).foldl (slotH ch) 0 = x4)
   ∧ wr.heap[w.heap.size]? = some (.cells #[.int .i64 bt,.int .i64 bn,.int .i64 bw,.slice A1 cs.length p1,.slice A2 hs.length p2,.slice A3 os.length p3] 39 (0,0))
   ∧ wr.heap[w.heap.size + 1]? = some (.cells #[.int .i64 ci.Id,.int .i64 ci.Size,.int .i64 ci.Local,.int .i64 ci.Remote,.int .i64 ci.Base,.int .i64 ci.Ppm,.int .i64 ci.Score] 103 (0,0))
   ∧ wr.heap[w.heap.size + 1 + 1]? = some (.cells #[.int .i64 ch,.int .i64 co.Size,.int .i64 co.Local,.int .i64 co.Remote,.int .i64 co.Base,.int .i64 co.Ppm,.int .i64 co.Score] 103 (0,0))∧Below w.heap.size w wr) (fun _ _ _ _ i _ => hs.length - (intOf i).toNat)
 case atStart => exact ⟨0,_,_,_,_,Nat.zero_le _,rfl,rfl,rfl,rfl,rfl,hd_ rfl,hd_ rfl,hd_ rfl,hd_ rfl,zqe (by simp;omega) (zqe (by simp) (zqk rfl)),zqe (by simp) (zqk (by simp)),zqk (by simp),bl_⟩
 case round =>
  obtain ⟨k,x1,x2,x3,x4,hk,rfl,rfl,rfl,rfl,rfl,H1,H2,H3,H4,hbox,hbi,hbo,hbw⟩:=hrel
  have hbz:=hbw.size
  obtain ⟨eh,e0,e1,e2,e3,e4,e5,ef,ezz⟩:=own6 (Below.refl wr.heap.size wr) (gz_ hbox).1 hbox
  have EH:=hd_ eh
  have s6 : wr.cell? ⟨w.heap.size + 1,6,none⟩ = some (.int .i64 ci.Score):=zqd hbi 6
  have o0 : wr.cell? ⟨w.heap.size + 1 + 1,0,none⟩ = some (.int .i64 ch):=zqd hbo 0
  have o1 : wr.cell? ⟨w.heap.size + 1 + 1,1,none⟩ = some (.int .i64 co.Size):=zqd hbo 1
  have oz:=(gz_ hbo).1
  have iz:=(gz_ hbi).1
  have EI:=hd_ hbi
  have EO:=hd_ hbo
  clear eh hbox hbi hbo
  have bd1:=HS.out.few_bd ch k hk
  have bd2:=HS.out.outH_bd ch k hk
  have bd3:=zwo (hs:=hs) ch k hk
  have bd4:=zgn (hs:=hs) ch k hk
  rw [H1.out] at bd1
  rw [H2.out] at bd2
  rw [H3.out] at bd3
  rw [H4.out] at bd4
  obtain ⟨l1,u1⟩:=bd1
  obtain ⟨l2,u2⟩:=bd2
  obtain ⟨l3,u3⟩:=bd3
  obtain ⟨l4,u4⟩:=bd4
  by_cases hlt : k < hs.length
  ·
   obtain ⟨b,off,rfl,hbB,c0,c1,c2,c3,c4,c5,c6⟩:=Htlc.rd (HH.out.below hbw) hlt
   obtain ⟨⟨m1,m2⟩,m3,m4⟩:=HS.out.h k hlt
   clear e0 e1 e2 e3 e4 e5 ef s6 o1
   have F1:=hd_ (zqp hs (fewH ch) 0 hlt)
   have F2:=hd_ (zqp hs (outH ch) 0 hlt)
   have F3:=hd_ (zqp hs (slotFewH ch) 0 hlt)
   have F4:=hd_ (zqp hs (slotH ch) 0 hlt)
   cases tx : (hs[k].Out == ch)
   ·
    have tn : (hs[k].Out != ch) = true:=by simp [bne,tx]
    have K1:=hd_ (show fewH ch x1 hs[k] = x1 by simp [fewH,tx])
    have K2:=hd_ (show outH ch x2 hs[k] = x2 by simp [outH,tx])
    have K3:=hd_ (show slotFewH ch x3 hs[k] = x3 by simp [slotFewH,tx])
    have K4:=hd_ (show slotH ch x4 hs[k] = x4 by simp [slotH,tx])
    clear tx
    go_wp2_with fail
    go_roundw
    case rel => exact ⟨k + 1,_,_,_,_,by omega,by go_num,rfl,rfl,rfl,rfl,hd_ (by rw [F1.out,H1.out,K1.out]),hd_ (by rw [F2.out,H2.out,K2.out]),hd_ (by rw [F3.out,H3.out,K3.out]),hd_ (by rw [F4.out,H4.out,K4.out]),zqe ezz EH.out,zqe iz EI.out,zqe oz EO.out,bl_⟩
    case measure => simp [intOf];omega
   ·
    have tn : (hs[k].Out != ch) = false:=by simp [bne,tx]
    cases ty : hs[k].Kept
    ·
     have K1:=hd_ (show fewH ch x1 hs[k] = x1 + hs[k].AmtOut by simp [fewH,tx,ty])
     have K2:=hd_ (show outH ch x2 hs[k] = x2 + hs[k].AmtOut by simp [outH,tx])
     have K3:=hd_ (show slotFewH ch x3 hs[k] = x3 + 1 by simp [slotFewH,tx,ty])
     have K4:=hd_ (show slotH ch x4 hs[k] = x4 + 1 by simp [slotH,tx])
     clear tx
     go_wp2_with fail
     go_roundw
     case rel => exact ⟨k + 1,_,_,_,_,by omega,by go_num,by first | rfl | go_num,by first | rfl | go_num,by first | rfl | go_num,by first | rfl | go_num,hd_ (by rw [F1.out,H1.out,K1.out]),hd_ (by rw [F2.out,H2.out,K2.out]),hd_ (by rw [F3.out,H3.out,K3.out]),hd_ (by rw [F4.out,H4.out,K4.out]),zqe ezz EH.out,zqe iz EI.out,zqe oz EO.out,bl_⟩
     case measure => simp [intOf];omega
    ·
     have K1:=hd_ (show fewH ch x1 hs[k] = x1 by simp [fewH,tx,ty])
     have K2:=hd_ (show outH ch x2 hs[k] = x2 + hs[k].AmtOut by simp [outH,tx])
     have K3:=hd_ (show slotFewH ch x3 hs[k] = x3 by simp [slotFewH,tx,ty])
     have K4:=hd_ (show slotH ch x4 hs[k] = x4 + 1 by simp [slotH,tx])
     clear tx
     go_wp2_with fail
     go_roundw
     case rel => exact ⟨k + 1,_,_,_,_,by omega,by go_num,by first | rfl | go_num,by first | rfl | go_num,by first | rfl | go_num,by first | rfl | go_num,hd_ (by rw [F1.out,H1.out,K1.out]),hd_ (by rw [F2.out,H2.out,K2.out]),hd_ (by rw [F3.out,H3.out,K3.out]),hd_ (by rw [F4.out,H4.out,K4.out]),zqe ezz EH.out,zqe iz EI.out,zqe oz EO.out,bl_⟩
     case measure => simp [intOf];omega
  ·
   obtain rfl : k = hs.length:=by omega
   have q1:=H1.out
   have q2:=H2.out
   have q3:=H3.out
   have q4:=H4.out
   rw [List.take_length] at q1 q2 q3 q4
   have HE:=hd_ (show roomF hs co ch amt ci.Score yes = allowF co.Size x1 x2 x3 x4 amt (standB ci.Score yes) by unfold roomF;rw [q1,q2,q3,q4])
   clear q1 q2 q3 q4 H1 H2 H3 H4
   go_wp2_with fail
   go_quiet (first | (go_at_call 157;exact zqi (s_Standing _ _ _)) | (go_at_call 156;exact zqi (s_Allow _ _ _ _ _ _ _ _ (by omega) (by omega))))
   go_wp2_with fail
   go_ret
   exact ⟨zqz HE.out.symm,bl_⟩
end Go.Proofs.YtdbmkfmenfcbiaaGreat
namespace Go.Proofs.YtdbmkfmenfcbiaaGreat
open Go.RowKit Go.Deep
theorem i_ScoreUp (n : Int) (w : World) : Calls Tryz.prog 148 #[.int .i64 n] w fun e w' => e = .returned (.int .i64 (upF n))∧w = w':=by
 cases h : inB n (-100) 100
 ·
  have HE:=hd_ (show upF n = 0 by unfold upF;rw [h];rfl)
  go_enter Tryz.func148,Tryz.ntmps148
  go_wp2_with (go_at_call 85;refine (zxd _ _).mono ?_;rintro e w' ⟨rfl,rfl⟩)
  go_ret
  exact ⟨zqz HE.out.symm,rfl⟩
 ·
  have HE:=hd_ (show upF n = min (n + 10) 100 by unfold upF;rw [h];rfl)
  obtain ⟨h1,h2⟩:=zji.1 h
  go_enter Tryz.func148,Tryz.ntmps148
  go_wp2_with (go_at_call 85;refine (zxd _ _).mono ?_;rintro e w' ⟨rfl,rfl⟩)
  go_ret
  exact ⟨zqz (by rw [HE.out]),rfl⟩
theorem zga (n : Int) (w : World) : Calls Tryz.prog 149 #[.int .i64 n] w fun e w' => e = .returned (.int .i64 (downF n))∧w = w':=by
 cases h : inB n (-100) 100
 ·
  have HE:=hd_ (show downF n = 0 by unfold downF;rw [h];rfl)
  go_enter Tryz.func149,Tryz.ntmps149
  go_wp2_with (go_at_call 85;refine (zxd _ _).mono ?_;rintro e w' ⟨rfl,rfl⟩)
  go_ret
  exact ⟨zqz HE.out.symm,rfl⟩
 ·
  have HE:=hd_ (show downF n = max (n - 15) (-100) by unfold downF;rw [h];rfl)
  obtain ⟨h1,h2⟩:=zji.1 h
  go_enter Tryz.func149,Tryz.ntmps149
  go_wp2_with (go_at_call 85;refine (zxd _ _).mono ?_;rintro e w' ⟨rfl,rfl⟩)
  go_ret
  exact ⟨zqz (by rw [HE.out]),rfl⟩
theorem zgb (n : Int) (w : World) : Calls Tryz.prog 150 #[.int .i64 n] w fun e w' => e = .returned (.int .i64 (fadeF n))∧w = w':=by
 cases h : inB n (-100) 100
 ·
  have HE:=hd_ (show fadeF n = 0 by unfold fadeF;rw [h];rfl)
  go_enter Tryz.func150,Tryz.ntmps150
  go_wp2_with (go_at_call 85;refine (zxd _ _).mono ?_;rintro e w' ⟨rfl,rfl⟩)
  go_ret
  exact ⟨zqz HE.out.symm,rfl⟩
 ·
  have HE:=hd_ (show fadeF n = if 0 < n then n - 1 else if n < 0 then n + 1 else 0 by unfold fadeF;rw [h];rfl)
  obtain ⟨h1,h2⟩:=zji.1 h
  by_cases h0 : n = 0
  ·
   subst h0
   go_enter Tryz.func150,Tryz.ntmps150
   go_wp2_with (go_at_call 85;refine (zxd _ _).mono ?_;rintro e w' ⟨rfl,rfl⟩)
   go_ret
   exact ⟨zqz HE.out.symm,rfl⟩
  ·
   have t0 : (n == 0) = false:=by simpa using h0
   by_cases hp : 0 < n
   ·
    have HF:=hd_ (show fadeF n = n - 1 by rw [HE.out,if_pos hp])
    clear h0
    go_enter Tryz.func150,Tryz.ntmps150
    go_wp2_with (go_at_call 85;refine (zxd _ _).mono ?_;rintro e w' ⟨rfl,rfl⟩)
    go_ret
    exact ⟨zqz HF.out.symm,rfl⟩
   ·
    have HF:=hd_ (show fadeF n = n + 1 by rw [HE.out,if_neg hp,if_pos (by omega)])
    have hneg : n < 0:=by omega
    clear h0
    go_enter Tryz.func150,Tryz.ntmps150
    go_wp2_with (go_at_call 85;refine (zxd _ _).mono ?_;rintro e w' ⟨rfl,rfl⟩)
    go_ret
    exact ⟨zqz HF.out.symm,rfl⟩
theorem i_Standing (n : Int) (y : Bool) (w : World) : Calls Tryz.prog 166 #[.int .i64 n,.bool y] w fun e w' => e = .returned (.bool (standB n y))∧w = w':=by
 cases h : inB n (-100) 100
 ·
  have HE:=hd_ (show standB n y = false by unfold standB;rw [h];rfl)
  go_enter Tryz.func166,Tryz.ntmps166
  go_wp2_with (go_at_call 85;refine (zxd _ _).mono ?_;rintro e w' ⟨rfl,rfl⟩)
  go_ret
  exact ⟨zqh HE.out.symm,rfl⟩
 ·
  by_cases h2 : 20 ≤ n
  ·
   have HE:=hd_ (show standB n y = y by unfold standB;rw [h,decide_eq_true h2];rfl)
   go_enter Tryz.func166,Tryz.ntmps166
   go_wp2_with (go_at_call 85;refine (zxd _ _).mono ?_;rintro e w' ⟨rfl,rfl⟩)
   go_ret
   exact ⟨zqh HE.out.symm,rfl⟩
  ·
   have HE:=hd_ (show standB n y = false by unfold standB;rw [decide_eq_false h2,Bool.and_false];rfl)
   have t2 : decide (n ≥ 20) = false:=decide_eq_false (by omega)
   go_enter Tryz.func166,Tryz.ntmps166
   go_wp2_with (go_at_call 85;refine (zxd _ _).mono ?_;rintro e w' ⟨rfl,rfl⟩)
   go_ret
   exact ⟨zqh HE.out.symm,rfl⟩
theorem i_Allow (size few all sf s amt : Int) (good : Bool) (w : World) (b1 : -1000 ≤ sf∧sf ≤ 1000) (b2 : -1000 ≤ s∧s ≤ 1000) :
  Calls Tryz.prog 165 #[.int .i64 size,.int .i64 few,.int .i64 all,.int .i64 sf,.int .i64 s,.int .i64 amt,.bool good] w fun e w' => e = .returned (.int .i64 (allowF size few all sf s amt good))∧w = w':=by
 have none : ∀ h : (amtB size && amtB few && amtB all && amtB amt && decide (0 ≤ sf) && decide (0 ≤ s) && decide (few ≤ all) && decide (sf ≤ s)) = false,allowF size few all sf s amt good = 0:=fun h => by unfold allowF;rw [if_pos h]
 cases h1 : amtB size
 ·
  have HE:=hd_ (none (by rw [h1];rfl))
  clear none
  go_enter Tryz.func165,Tryz.ntmps165
  go_wp2_with (go_at_call 50;refine (zqn _ _).mono ?_;rintro e w' ⟨rfl,rfl⟩)
  go_ret
  exact ⟨zqz HE.out.symm,rfl⟩
 cases h2 : amtB few
 ·
  have HE:=hd_ (none (by rw [h2];simp))
  clear none
  go_enter Tryz.func165,Tryz.ntmps165
  go_wp2_with (go_at_call 50;refine (zqn _ _).mono ?_;rintro e w' ⟨rfl,rfl⟩)
  go_ret
  exact ⟨zqz HE.out.symm,rfl⟩
 cases h3 : amtB all
 ·
  have HE:=hd_ (none (by rw [h3];simp))
  clear none
  go_enter Tryz.func165,Tryz.ntmps165
  go_wp2_with (go_at_call 50;refine (zqn _ _).mono ?_;rintro e w' ⟨rfl,rfl⟩)
  go_ret
  exact ⟨zqz HE.out.symm,rfl⟩
 cases h4 : amtB amt
 ·
  have HE:=hd_ (none (by rw [h4];simp))
  clear none
  go_enter Tryz.func165,Tryz.ntmps165
  go_wp2_with (go_at_call 50;refine (zqn _ _).mono ?_;rintro e w' ⟨rfl,rfl⟩)
  go_ret
  exact ⟨zqz HE.out.symm,rfl⟩
 by_cases h5 : sf < 0
 ·
  have HE:=hd_ (none (by rw [decide_eq_false (show ¬ 0 ≤ sf by omega)];simp))
  clear none
  go_enter Tryz.func165,Tryz.ntmps165
  go_wp2_with (go_at_call 50;refine (zqn _ _).mono ?_;rintro e w' ⟨rfl,rfl⟩)
  go_ret
  exact ⟨zqz HE.out.symm,rfl⟩
 by_cases h6 : s < 0
 ·
  have HE:=hd_ (none (by rw [decide_eq_false (show ¬ 0 ≤ s by omega)];simp))
  clear none
  have t5 : decide (sf < 0) = false:=decide_eq_false h5
  go_enter Tryz.func165,Tryz.ntmps165
  go_wp2_with (go_at_call 50;refine (zqn _ _).mono ?_;rintro e w' ⟨rfl,rfl⟩)
  go_ret
  exact ⟨zqz HE.out.symm,rfl⟩
 have t5 : decide (sf < 0) = false:=decide_eq_false h5
 have t6 : decide (s < 0) = false:=decide_eq_false h6
 by_cases h7 : all < few
 ·
  have HE:=hd_ (none (by rw [decide_eq_false (show ¬ few ≤ all by omega)];simp))
  clear none
  go_enter Tryz.func165,Tryz.ntmps165
  go_wp2_with (go_at_call 50;refine (zqn _ _).mono ?_;rintro e w' ⟨rfl,rfl⟩)
  go_ret
  exact ⟨zqz HE.out.symm,rfl⟩
 have t7 : decide (few > all) = false:=decide_eq_false (by omega)
 by_cases h8 : s < sf
 ·
  have HE:=hd_ (none (by rw [decide_eq_false (show ¬ sf ≤ s by omega)];simp))
  clear none
  go_enter Tryz.func165,Tryz.ntmps165
  go_wp2_with (go_at_call 50;refine (zqn _ _).mono ?_;rintro e w' ⟨rfl,rfl⟩)
  go_ret
  exact ⟨zqz HE.out.symm,rfl⟩
 have t8 : decide (sf > s) = false:=decide_eq_false (by omega)
 clear none
 have HA:=hd_ (show allowF size few all sf s amt good = if 10 ≤ s ∨ size < all + amt then 0 else if sf < 5∧few + amt ≤ size / 2 then 1 else if good = true then 2 else 0 by
  unfold allowF
  rw [if_neg]
  rw [h1,h2,h3,h4,decide_eq_true (show 0 ≤ sf by omega),decide_eq_true (show 0 ≤ s by omega),decide_eq_true (show few ≤ all by omega),decide_eq_true (show sf ≤ s by omega)]
  simp)
 obtain ⟨x1,y1⟩:=zxu.1 h1
 obtain ⟨x2,y2⟩:=zxu.1 h2
 obtain ⟨x3,y3⟩:=zxu.1 h3
 obtain ⟨x4,y4⟩:=zxu.1 h4
 by_cases g1 : 10 ≤ s
 ·
  have HE:=hd_ (show allowF size few all sf s amt good = 0 by rw [HA.out,if_pos (Or.inl g1)])
  go_enter Tryz.func165,Tryz.ntmps165
  go_wp2_with (go_at_call 50;refine (zqn _ _).mono ?_;rintro e w' ⟨rfl,rfl⟩)
  go_ret
  exact ⟨zqz HE.out.symm,rfl⟩
 have t9 : decide (s ≥ 10) = false:=decide_eq_false (by omega)
 by_cases g2 : size < all + amt
 ·
  have HE:=hd_ (show allowF size few all sf s amt good = 0 by rw [HA.out,if_pos (Or.inr g2)])
  go_enter Tryz.func165,Tryz.ntmps165
  go_wp2_with (go_at_call 50;refine (zqn _ _).mono ?_;rintro e w' ⟨rfl,rfl⟩)
  go_ret
  exact ⟨zqz HE.out.symm,rfl⟩
 have u2 : decide (all + amt > size) = false:=decide_eq_false (by omega)
 have HB:=hd_ (show allowF size few all sf s amt good = if sf < 5∧few + amt ≤ size / 2 then 1 else if good = true then 2 else 0 by rw [HA.out,if_neg (by omega)])
 by_cases g3 : sf < 5
 ·
  by_cases g4 : few + amt ≤ size / 2
  ·
   have HE:=hd_ (show allowF size few all sf s amt good = 1 by rw [HB.out,if_pos ⟨g3,g4⟩])
   go_enter Tryz.func165,Tryz.ntmps165
   go_wp2_with (go_at_call 50;refine (zqn _ _).mono ?_;rintro e w' ⟨rfl,rfl⟩)
   go_ret
   exact ⟨zqz HE.out.symm,rfl⟩
  ·
   have u4 : decide (few + amt ≤ size / 2) = false:=decide_eq_false g4
   cases good
   ·
    have HE:=hd_ (show allowF size few all sf s amt false = 0 by rw [HB.out,if_neg (fun h => g4 h.2)];rfl)
    go_enter Tryz.func165,Tryz.ntmps165
    go_wp2_with (go_at_call 50;refine (zqn _ _).mono ?_;rintro e w' ⟨rfl,rfl⟩)
    go_ret
    exact ⟨zqz HE.out.symm,rfl⟩
   ·
    have HE:=hd_ (show allowF size few all sf s amt true = 2 by rw [HB.out,if_neg (fun h => g4 h.2)];rfl)
    go_enter Tryz.func165,Tryz.ntmps165
    go_wp2_with (go_at_call 50;refine (zqn _ _).mono ?_;rintro e w' ⟨rfl,rfl⟩)
    go_ret
    exact ⟨zqz HE.out.symm,rfl⟩
 ·
  have u3 : decide (sf < 5) = false:=decide_eq_false g3
  cases good
  ·
   have HE:=hd_ (show allowF size few all sf s amt false = 0 by rw [HB.out,if_neg (fun h => g3 h.1)];rfl)
   go_enter Tryz.func165,Tryz.ntmps165
   go_wp2_with (go_at_call 50;refine (zqn _ _).mono ?_;rintro e w' ⟨rfl,rfl⟩)
   go_ret
   exact ⟨zqz HE.out.symm,rfl⟩
  ·
   have HE:=hd_ (show allowF size few all sf s amt true = 2 by rw [HB.out,if_neg (fun h => g3 h.1)];rfl)
   go_enter Tryz.func165,Tryz.ntmps165
   go_wp2_with (go_at_call 50;refine (zqn _ _).mono ?_;rintro e w' ⟨rfl,rfl⟩)
   go_ret
   exact ⟨zqz HE.out.symm,rfl⟩
theorem mulR_of {n ppm : Int} (h : mulArgs n ppm 1000000 = true) : mulQ n ppm 1000000 = divQ n ppm 1000000∧mulR n ppm 1000000 = divR n ppm 1000000∧mulOk n ppm 1000000 = divB n ppm 1000000:=by
 refine ⟨by unfold mulQ;rw [if_pos h],by unfold mulR;rw [if_pos h],by unfold mulOk;rw [h];rfl⟩
theorem zmp {base ppm n : Int} (h : feeOk base ppm n = false) : feeV base ppm n = 0:=by unfold feeV;rw [h];rfl
set_option maxHeartbeats 1000000 in
theorem i_fee (base ppm n : Int) (w : World) : Calls Tryz.prog 164 #[.int .i64 base,.int .i64 ppm,.int .i64 n,.bool true] w fun e w' => e = .returned (.tuple #[.int .i64 (feeV base ppm n),.bool (feeOk base ppm n)])∧Below w.heap.size w w':=by
 by_cases h4 : 1000000 < ppm
 ·
  have h0 : feeOk base ppm n = false:=by unfold feeOk;rw [show inB ppm 0 1000000 = false by unfold inB;exact decide_eq_false (by omega)];simp
  have HE:=hd_ (And.intro h0 (zmp h0))
  clear h0
  have t4 : decide (ppm > 1000000) = true:=decide_eq_true (by omega)
  clear h4
  cases h5 : mulOk n ppm 1000000
  all_goals
   go_enter Tryz.func164,Tryz.ntmps164
   go_wp2_with fail
   refine (zwc n ppm 1000000 _).mono ?_
   rintro e w1 ⟨rfl,hb⟩
   rw [h5]
   have HB:=hd_ hb
   clear hb
   go_wp2_with fail
   go_ret2
   exact ⟨by rw [HE.out.1,HE.out.2];rfl,HB.out⟩
 have t4 : decide (ppm > 1000000) = false:=decide_eq_false (by omega)
 cases h5 : mulOk n ppm 1000000
 ·
  have h0 : feeOk base ppm n = false:=by
   cases hA : (amtB n && inB ppm 0 1000000)
   ·
    unfold feeOk
    have : (amtB base && amtB n && inB ppm 0 1000000) = false:=by rw [Bool.and_assoc,hA,Bool.and_false]
    rw [this];rfl
   ·
    simp only [Bool.and_eq_true] at hA
    obtain ⟨n1,n2⟩:=zxu.1 hA.1
    obtain ⟨p1,p2⟩:=zji.1 hA.2
    have hd:=(zwl (ppm:=ppm) (n:=n) ⟨n1,n2⟩ ⟨p1,p2⟩).1
    unfold mulOk mulArgs at h5
    rw [hd,hA.1,show amtB ppm = true from zxu.2 ⟨p1,by omega⟩] at h5
    exact absurd h5 (by decide)
  have HE:=hd_ (And.intro h0 (zmp h0))
  clear h0 h4
  go_enter Tryz.func164,Tryz.ntmps164
  go_wp2_with fail
  refine (zwc n ppm 1000000 _).mono ?_
  rintro e w1 ⟨rfl,hb⟩
  rw [h5]
  have HB:=hd_ hb
  clear hb
  go_wp2_with fail
  go_ret2
  exact ⟨by rw [HE.out.1,HE.out.2];rfl,HB.out⟩
 have hA : mulArgs n ppm 1000000 = true:=by
  unfold mulOk at h5
  rw [Bool.and_eq_true] at h5
  exact h5.1
 have hA2:=hA
 simp only [mulArgs,Bool.and_eq_true,zxu] at hA2
 obtain ⟨⟨⟨⟨n1,n2⟩,p1,p2⟩,-⟩,-⟩:=hA2
 obtain ⟨m1,m2,m3⟩:=mulR_of hA
 obtain ⟨d0,d1,d2,d3,d4⟩:=zwl (ppm:=ppm) (n:=n) ⟨n1,n2⟩ ⟨by omega,by omega⟩
 have HQ:=hd_ (show mulQ n ppm 1000000 = n * ppm / 1000000 by rw [m1];unfold divQ;rw [if_pos d0])
 have HR:=hd_ (show mulR n ppm 1000000 = n * ppm % 1000000 by rw [m2];unfold divR;rw [if_pos d0])
 have HD:=hd_ h5
 have HOk:=hd_ (show feeOk base ppm n = (amtB base && amtB (feeQ ppm n) && amtB (base + feeQ ppm n)) by
  unfold feeOk
  rw [show amtB n = true from zxu.2 ⟨n1,n2⟩,show inB ppm 0 1000000 = true from zji.2 ⟨by omega,by omega⟩,Bool.and_true,Bool.and_true])
 have HV:=hd_ (show feeV base ppm n = if feeOk base ppm n = true then base + feeQ ppm n else 0 from rfl)
 have HQF:=hd_ (show feeQ ppm n = n * ppm / 1000000 + (if 0 < n * ppm % 1000000 then 1 else 0) from rfl)
 obtain ⟨q,hq⟩ : ∃ q,n * ppm / 1000000 = q:=⟨_,rfl⟩
 obtain ⟨r,hr⟩ : ∃ r,n * ppm % 1000000 = r:=⟨_,rfl⟩
 rw [hq] at d1 d2 HQ HQF
 rw [hr] at d3 d4 HR HQF
 clear d0 hq hr h5 hA m1 m2 m3 h4
 by_cases hr0 : 0 < r
 ·
  have HF:=hd_ (show feeQ ppm n = q + 1 by rw [HQF.out,if_pos hr0])
  go_enter Tryz.func164,Tryz.ntmps164
  go_wp2_with fail
  refine (zwc n ppm 1000000 _).mono ?_
  rintro e w1 ⟨rfl,hb⟩
  rw [HQ.out,HR.out,HD.out]
  have HB:=hd_ hb
  clear hb
  go_wp2_with fail
  cases hs : (amtB base && amtB (q + 1) && amtB (base + (q + 1)))
  ·
   have HO2:=hd_ (show feeOk base ppm n = false by rw [HOk.out,HF.out];exact hs)
   refine (zvs _ _ _ hs).mono ?_
   rintro e w' ⟨rfl,rfl⟩
   go_wp2_with fail
   go_ret2
   exact ⟨by rw [HV.out,HO2.out];rfl,HB.out⟩
  ·
   simp only [Bool.and_eq_true] at hs
   have HO2:=hd_ (show feeOk base ppm n = true by rw [HOk.out,HF.out,hs.1.1,hs.1.2,hs.2];rfl)
   refine (zky _ _ _ hs.1.1 hs.1.2 hs.2).mono ?_
   rintro e w' ⟨rfl,rfl⟩
   go_wp2_with fail
   go_ret2
   exact ⟨by rw [HV.out,HO2.out,if_pos rfl,HF.out];rfl,HB.out⟩
 ·
  have HF:=hd_ (show feeQ ppm n = q by rw [HQF.out,if_neg hr0,Int.add_zero])
  have tr : decide (r > 0) = false:=decide_eq_false (by omega)
  go_enter Tryz.func164,Tryz.ntmps164
  go_wp2_with fail
  refine (zwc n ppm 1000000 _).mono ?_
  rintro e w1 ⟨rfl,hb⟩
  rw [HQ.out,HR.out,HD.out]
  have HB:=hd_ hb
  clear hb
  go_wp2_with fail
  cases hs : (amtB base && amtB q && amtB (base + q))
  ·
   have HO2:=hd_ (show feeOk base ppm n = false by rw [HOk.out,HF.out];exact hs)
   refine (zvs _ _ _ hs).mono ?_
   rintro e w' ⟨rfl,rfl⟩
   go_wp2_with fail
   go_ret2
   exact ⟨by rw [HV.out,HO2.out];rfl,HB.out⟩
  ·
   simp only [Bool.and_eq_true] at hs
   have HO2:=hd_ (show feeOk base ppm n = true by rw [HOk.out,HF.out,hs.1.1,hs.1.2,hs.2];rfl)
   refine (zky _ _ _ hs.1.1 hs.1.2 hs.2).mono ?_
   rintro e w' ⟨rfl,rfl⟩
   go_wp2_with fail
   go_ret2
   exact ⟨by rw [HV.out,HO2.out,if_pos rfl,HF.out];rfl,HB.out⟩
theorem i_FeeUp (base ppm n : Int) (w : World) : Calls Tryz.prog 145 #[.int .i64 base,.int .i64 ppm,.int .i64 n] w fun e w' => e = .returned (.tuple #[.int .i64 (feeV base ppm n),.bool (feeOk base ppm n)])∧Below w.heap.size w w':=by
 go_enter Tryz.func145,Tryz.ntmps145
 go_wp2_with fail
 refine (i_fee _ _ _ _).mono ?_
 rintro e w1 ⟨rfl,hb⟩
 have HB:=hd_ hb
 clear hb
 go_wp2_with fail
 go_ret2
 exact ⟨rfl,HB.out⟩
end Go.Proofs.YtdbmkfmenfcbiaaGreat
namespace Go.Proofs.YtdbmkfmenfcbiaaGreat
open Go.RowKit Go.Deep
theorem Ow.heapW {w : World} {B size n cap g : Nat} {e : TypeId} {rows : List (List Value)} (h : Ow w B e size (.slice (some ⟨g,0,none⟩) n cap) rows) : ∃ cur,w.heap[g]? = some (.cells cur e (0,0)):=by
 rcases h.2.2 with ⟨hv,_⟩ | ⟨g',cap',cur,hv,_,hh,_⟩
 ·
  cases hv
 ·
  injection hv with h1
  injection h1 with h1
  injection h1 with h1
  subst h1
  exact ⟨cur,hh⟩
theorem Ow.headW {w : World} {B n cap size : Nat} {e : TypeId} {A : Option Addr} {rows : List (List Value)} (h : Ow w B e size (.slice A n cap) rows) (h0 : 0 < rows.length) : ∃ g,A = some ⟨g,0,none⟩∧B ≤ g:=by
 rcases h.open_ with ⟨hr,hv⟩ | ⟨g,cap',hv,hB,_,_⟩
 ·
  rw [hr] at h0
  simp at h0
 ·
  injection hv with h1
  exact ⟨g,h1,hB⟩
def set7 (w : World) (g o : Nat) (u0 u1 u2 u3 u4 u5 u6 : Value) : World :=
 ((((((w.setCell ⟨g,o,none⟩ u0).setCell ⟨g,o + 1,none⟩ u1).setCell ⟨g,o + 2,none⟩ u2).setCell ⟨g,o + 3,none⟩ u3).setCell ⟨g,o + 4,none⟩ u4).setCell ⟨g,o + 5,none⟩ u5).setCell ⟨g,o + 6,none⟩ u6
theorem grown_set7 (w : World) (g o : Nat) (u0 u1 u2 u3 u4 u5 u6 : Value) : w.grownBy (set7 w g o u0 u1 u2 u3 u4 u5 u6) (some g) :=
 zqg (zqg (zqg (zqg (zqg (zqg (zqg (World.grownBy.refl w (some g)) o u0) (o + 1) u1) (o + 2) u2) (o + 3) u3) (o + 4) u4) (o + 5) u5) (o + 6) u6
theorem Ow.set7 {w : World} {B n cap g i : Nat} {e : TypeId} {rows : List (List Value)} {r : List Value} (h : Ow w B e 7 (.slice (some ⟨g,0,none⟩) n cap) rows) (hi : rows[i]? = some r) (u0 u1 u2 u3 u4 u5 u6 : Value) :
  Ow (Go.Proofs.YtdbmkfmenfcbiaaGreat.set7 w g (i * 7) u0 u1 u2 u3 u4 u5 u6) B e 7 (.slice (some ⟨g,0,none⟩) n cap) (rows.set i [u0,u1,u2,u3,u4,u5,u6]):=by
 have hlt : i < rows.length:=(List.getElem?_eq_some_iff.1 hi).1
 have hl:=h.1 r (List.mem_of_getElem? hi)
 have at_ : ∀ (R : List (List Value)) (x : List Value),R.length = rows.length → (R.set i x)[i]? = some x:=fun R x hR => by
  rw [List.getElem?_set_self (by omega)]
 have s0:=h.stored hi (j:=0) (by decide) u0
 have s1:=s0.stored (at_ _ _ rfl) (j:=1) (by decide) u1
 rw [List.set_set] at s1
 have s2:=s1.stored (at_ _ _ rfl) (j:=2) (by decide) u2
 rw [List.set_set] at s2
 have s3:=s2.stored (at_ _ _ rfl) (j:=3) (by decide) u3
 rw [List.set_set] at s3
 have s4:=s3.stored (at_ _ _ rfl) (j:=4) (by decide) u4
 rw [List.set_set] at s4
 have s5:=s4.stored (at_ _ _ rfl) (j:=5) (by decide) u5
 rw [List.set_set] at s5
 have s6:=s5.stored (at_ _ _ rfl) (j:=6) (by decide) u6
 rw [List.set_set] at s6
 match r,hl with
 | [_,_,_,_,_,_,_],_ => exact s6
theorem zxh {cs : List Chan} {ch : Int} {i : Nat} (h : chanIx cs ch = (i : Int)) : i < cs.length:=by
 unfold chanIx at h
 split at h
 ·
  rename_i j hj
  have:=(List.findIdx?_eq_some_iff_getElem.1 hj).1
  omega
 ·
  omega
theorem zpg {α : Type} {l : List α} {i : Nat} (h : i < l.length) (f : α → α) : l.modify i f = l.set i (f l[i]):=by
 apply List.ext_getElem?
 intro j
 rw [List.getElem?_modify,List.getElem?_set]
 by_cases hj : i = j
 ·
  subst hj
  simp [h]
 ·
  simp [hj]
section
variable {T : TypeId} {w0 w : World} {B X : Nat} {b : Bk} {L : List Line} {code : Int} {A1 A2 A3 A4 : Option Addr} {p1 p2 p3 p4 : Nat}
theorem zwf (cs : List Chan) (i : Nat) (c : Chan) : (cs.set i c).map Chan.cells = (cs.map Chan.cells).set i c.cells:=by
 rw [List.map_set]
theorem Wk.putChan {g i : Nat} (h : Wk T w0 w B X b L code (some ⟨g,0,none⟩) A2 A3 A4 p1 p2 p3 p4) (hT1 : 103 ≠ T) (hi : i < b.cs.length) (c : Chan) :
  Wk T w0 (Go.Proofs.YtdbmkfmenfcbiaaGreat.set7 w g (i * 7) (.int .i64 c.Id) (.int .i64 c.Size) (.int .i64 c.Local) (.int .i64 c.Remote) (.int .i64 c.Base) (.int .i64 c.Ppm) (.int .i64 c.Score)) B X ⟨b.t,b.n,b.w,b.cs.set i c,b.hs,b.os⟩ L code (some ⟨g,0,none⟩) A2 A3 A4 p1 p2 p3 p4:=by
 have hg:=grown_set7 w g (i * 7) (.int .i64 c.Id) (.int .i64 c.Size) (.int .i64 c.Local) (.int .i64 c.Remote) (.int .i64 c.Base) (.int .i64 c.Ppm) (.int .i64 c.Score)
 obtain ⟨cur,hh⟩:=h.o.c.heapW
 have hr : (b.cs.map Chan.cells)[i]? = some b.cs[i].cells:=by rw [List.getElem?_map,List.getElem?_eq_getElem hi];rfl
 have h7:=h.o.c.set7 hr (.int .i64 c.Id) (.int .i64 c.Size) (.int .i64 c.Local) (.int .i64 c.Remote) (.int .i64 c.Base) (.int .i64 c.Ppm) (.int .i64 c.Score)
 have hgX : some X ≠ some g:=fun e => by
  injection e with e
  subst e
  rw [h.x] at hh
  injection hh with hh
  injection hh with _ hh
  exact hT1 hh.symm
 have hBg : B ≤ g:=(h.o.c.block g (by simp [Value.ownBlock])).1
 refine ⟨?_,⟨?_,?_,?_⟩,?_,?_,?_,h.bx⟩
 ·
  rw [List.length_set]
  exact zqj hg hgX h.x
 ·
  rw [List.length_set,zwf]
  exact h7
 ·
  exact h.o.h.grown hg (Or.inr (h.o.h.ne_ hh (by decide)).symm)
 ·
  exact h.o.o.grown hg (Or.inr (h.o.o.ne_ hh (by decide)).symm)
 ·
  exact h.l.grown hg (Or.inr (h.l.ne_ hh (by decide)).symm)
 ·
  exact h.b.grown hg h.ble (fun k e => by injection e with e;omega)
 ·
  intro k cs t h1 h2
  have h3:=h.f k cs t h1 h2
  refine zqj hg ?_ h3
  intro e
  injection e with e
  subst e
  rw [hh] at h3
  injection h3 with h3
  injection h3 with _ h3
  exact h2 (by rw [← h3];simp [wkTs])
end
end Go.Proofs.YtdbmkfmenfcbiaaGreat
namespace Go.Proofs.YtdbmkfmenfcbiaaGreat
open Go.RowKit Go.Deep
def Stop (p : Prop) : Prop:=p
theorem Stop.go {p : Prop} (h : Stop p) : p:=h
theorem Stop.on {p : Prop} (h : p) : Stop p:=h
theorem zjp : (Tryz.prog.info? 103).map (fun i => (i.zero,i.size,i.bytes)) = some (some (.agg #[.int .i64 0,.int .i64 0,.int .i64 0,.int .i64 0,.int .i64 0,.int .i64 0,.int .i64 0]),7,56):=by kernel_rfl
theorem zjq : (Tryz.prog.info? 70).map (fun i => (i.zero,i.size,i.bytes)) = some (some (.agg #[.int .i64 0,.int .i64 0,.int .i64 0,.int .i64 0,.int .i64 0,.bool false,.int .i64 0]),7,56):=by kernel_rfl
theorem zje : (Tryz.prog.info? 93).map (fun i => (i.zero,i.size,i.bytes)) = some (some (.agg #[.int .i64 0,.int .i64 0,.int .i64 0,.int .i64 0,.int .i64 0]),5,40):=by kernel_rfl
theorem zju (l : List Chan) : ∀ u ∈ (l.map Chan.cells).flatten,u.oneCell' = true:=by
 intro u hu
 obtain ⟨r,hr,hu⟩:=List.mem_flatten.1 hu
 obtain ⟨x,_,rfl⟩:=List.mem_map.1 hr
 simp only [Chan.cells,List.mem_cons,List.not_mem_nil,or_false] at hu
 rcases hu with rfl | rfl | rfl | rfl | rfl | rfl | rfl <;> rfl
theorem zwb (l : List Htlc) : ∀ u ∈ (l.map Htlc.cells).flatten,u.oneCell' = true:=by
 intro u hu
 obtain ⟨r,hr,hu⟩:=List.mem_flatten.1 hu
 obtain ⟨x,_,rfl⟩:=List.mem_map.1 hr
 simp only [Htlc.cells,List.mem_cons,List.not_mem_nil,or_false] at hu
 rcases hu with rfl | rfl | rfl | rfl | rfl | rfl | rfl <;> rfl
theorem zkq (l : List Circle) : ∀ u ∈ (l.map Circle.cells).flatten,u.oneCell' = true:=by
 intro u hu
 obtain ⟨r,hr,hu⟩:=List.mem_flatten.1 hu
 obtain ⟨x,_,rfl⟩:=List.mem_map.1 hr
 simp only [Circle.cells,List.mem_cons,List.not_mem_nil,or_false] at hu
 rcases hu with rfl | rfl | rfl | rfl | rfl <;> rfl
def CopyP (w : World) (b : Bk) (e : Ending) (w' : World) : Prop :=
 ∃ (C1 C2 C3 : Option Addr) (q1 q2 q3 : Nat),e = .returned (.agg #[.int .i64 b.t,.int .i64 b.n,.int .i64 b.w,.slice C1 b.cs.length q1,.slice C2 b.hs.length q2,.slice C3 b.os.length q3])∧OwB w' w.heap.size b C1 C2 C3 q1 q2 q3∧Below w.heap.size w w'
set_option maxRecDepth 100000 in
set_option maxHeartbeats 4000000 in
theorem s_l07Copy (b : Bk) (A1 A2 A3 : Option Addr) (p1 p2 p3 : Nat) (w : World) (l1 : b.cs.length ≤ 1048576) (l2 : b.hs.length ≤ 1048576) (l3 : b.os.length ≤ 1048576) (hr : RdBook w w.heap.size A1 b.cs A2 b.hs A3 b.os) :
  Calls Tryz.prog 63 #[.agg #[.int .i64 b.t,.int .i64 b.n,.int .i64 b.w,.slice A1 b.cs.length p1,.slice A2 b.hs.length p2,.slice A3 b.os.length p3]] w (CopyP w b):=by
 obtain ⟨i0,hi,hz0,hz1,hz2⟩:=info_parts zjp
 obtain ⟨j0,hj,hy0,hy1,hy2⟩:=info_parts zjq
 obtain ⟨k0,hk,hx0,hx1,hx2⟩:=info_parts zje
 have HI0:=hd_ hi
 have HI1:=hd_ hz0
 have HI2:=hd_ hz1
 have HI3:=hd_ hz2
 have HJ0:=hd_ hj
 have HJ1:=hd_ hy0
 have HJ2:=hd_ hy1
 have HJ3:=hd_ hy2
 have HK0:=hd_ hk
 have HK1:=hd_ hx0
 have HK2:=hd_ hx1
 have HK3:=hd_ hx2
 have HR:=hd_ hr
 clear hi hz0 hz1 hz2 hj hy0 hy1 hy2 hk hx0 hx1 hx2 hr
 go_enter Tryz.func63,Tryz.ntmps63
 go_wp2_with (at_builtin;refine Stop.go ?_)
 refine Stop.on ?_
 refine zjs rfl _ _ _ rfl w.heap.size 103 i0 _ 7 56 Tryz.underlying35 HI0.out HI1.out HI2.out HI3.out rfl (by decide) _ _ [] 0 rfl (by rfl) (by first | exact Ow.empty_ rfl (by first | omega | (simp;done) | (simp;omega)) | exact Ow.empty_ (by simp) (by first | omega | (simp;done) | (simp;omega))) A1 p1 (b.cs.map Chan.cells) b.cs.length (by rw [List.length_map]) (by rfl) w.heap.size (HR.out.c.below (bl_)) (zju b.cs) (by rw [List.length_map];simp only [List.length_nil];omega) (by decide) (by first | omega | (simp;done) | (simp;omega)) ?_
 intro C1 q1 w1 how1 hb1 hg1
 simp only [Nat.zero_add,List.nil_append] at how1 ⊢
 have kX : Hid (w1.heap[w.heap.size]? = some (.cells (bkC b A1 p1 A2 p2 A3 p3) 39 (0,0))):=hd_ (zqj hg1 (by first | (simp [Value.ownBlock];done) | (simp [Value.ownBlock];omega)) (zqe (by simp;omega) (zqe (by simp) (zqk rfl))))
 have kY : Hid (w1.heap[w.heap.size + 1]? = some (.cells #[.int .i64 0,.int .i64 0,.int .i64 0,.slice none 0 0,.slice none 0 0,.slice none 0 0] 39 (0,0))):=hd_ (zqj hg1 (by first | (simp [Value.ownBlock];done) | (simp [Value.ownBlock];omega)) (zqe (by simp) (zqk (by simp))))
 have kB : Hid (Below w.heap.size w w1):=hd_ (bl_)
 have kO1:=hd_ how1
 clear how1 hb1 hg1
 obtain ⟨_,x0,x1,x2,x3,x4,x5,xf,xz⟩:=own6 (Below.refl _ _) (gz_ kX.out).1 kX.out
 obtain ⟨_,y0,y1,y2,y3,y4,y5,yf,_⟩:=own6 (Below.refl _ _) (gz_ kY.out).1 kY.out
 go_wp2_with (at_builtin;refine Stop.go ?_)
 refine Stop.on ?_
 clear x0 x1 x2 x3 x4 x5 xf y0 y1 y2 y3 y4 y5 yf
 obtain ⟨v1,hv1⟩ : ∃ v,w1.setCell ⟨w.heap.size,3,none⟩ (.slice C1 b.cs.length q1) = v:=⟨_,rfl⟩
 have hX1 : Hid (v1.heap[w.heap.size]? = some (.cells (bkC b C1 q1 A2 p2 A3 p3) 39 (0,0))):=hd_ (by rw [← hv1];exact zqa kX.out)
 have hY1 : Hid (v1.heap[w.heap.size + 1]? = some (.cells #[.int .i64 0,.int .i64 0,.int .i64 0,.slice none 0 0,.slice none 0 0,.slice none 0 0] 39 (0,0))):=hd_ (by rw [← hv1];exact zjn (by simp) kY.out)
 have hB1 : Hid (Below w.heap.size w v1):=hd_ (by rw [← hv1];exact kB.out.setCell (Nat.le_refl _) _)
 have hO1:=hd_ (show Ow v1 w.heap.size 103 7 (.slice C1 b.cs.length q1) (b.cs.map Chan.cells) by rw [← hv1];exact kO1.out.aside kX.out (by decide) _)
 have hs1 : w1.heap.size = v1.heap.size:=by rw [← hv1];simp
 rw [hv1]
 try rw [hs1]
 clear hs1 hv1 kX kY kB xz kO1
 obtain ⟨_,x0,x1,x2,x3,x4,x5,xf,xz⟩:=own6 (Below.refl _ _) (gz_ hX1.out).1 hX1.out
 have yz:=(gz_ hY1.out).1
 refine zjs rfl _ _ _ rfl w.heap.size 70 j0 _ 7 56 Tryz.underlying36 HJ0.out HJ1.out HJ2.out HJ3.out rfl (by decide) _ _ [] 0 rfl (by rfl) (by first | exact Ow.empty_ rfl (by first | omega | (simp;done) | (simp;omega)) | exact Ow.empty_ (by simp) (by first | omega | (simp;done) | (simp;omega))) A2 p2 (b.hs.map Htlc.cells) b.hs.length (by rw [List.length_map]) (by rfl) w.heap.size (HR.out.h.below (bl_)) (zwb b.hs) (by rw [List.length_map];simp only [List.length_nil];omega) (by decide) (by first | omega | (simp;done) | (simp;omega)) ?_
 intro C2 q2 w2 how2 hb2 hg2
 simp only [Nat.zero_add,List.nil_append] at how2 ⊢
 have kX : Hid (w2.heap[w.heap.size]? = some (.cells (bkC b C1 q1 A2 p2 A3 p3) 39 (0,0))):=hd_ (zqj hg2 (by first | (simp [Value.ownBlock];done) | (simp [Value.ownBlock];omega)) (zqe xz hX1.out))
 have kY : Hid (w2.heap[w.heap.size + 1]? = some (.cells #[.int .i64 0,.int .i64 0,.int .i64 0,.slice none 0 0,.slice none 0 0,.slice none 0 0] 39 (0,0))):=hd_ (zqj hg2 (by first | (simp [Value.ownBlock];done) | (simp [Value.ownBlock];omega)) (zqe yz hY1.out))
 have kB : Hid (Below w.heap.size w w2):=hd_ (bl_)
 have kO1:=hd_ ((hO1.out.alloc _).grown hg2 (Or.inr (fun e => by have h9:=(hO1.out.block v1.heap.size (by first | exact e | exact e.symm)).2;omega)))
 clear xf xz yz x0 x1 x2 x3 x4 x5 hO1 hX1 hY1 hB1
 have kO2:=hd_ how2
 clear how2 hb2 hg2
 obtain ⟨_,x0,x1,x2,x3,x4,x5,xf,xz⟩:=own6 (Below.refl _ _) (gz_ kX.out).1 kX.out
 obtain ⟨_,y0,y1,y2,y3,y4,y5,yf,_⟩:=own6 (Below.refl _ _) (gz_ kY.out).1 kY.out
 go_wp2_with (at_builtin;refine Stop.go ?_)
 refine Stop.on ?_
 clear x0 x1 x2 x3 x4 x5 xf y0 y1 y2 y3 y4 y5 yf
 obtain ⟨v2,hv2⟩ : ∃ v,w2.setCell ⟨w.heap.size,4,none⟩ (.slice C2 b.hs.length q2) = v:=⟨_,rfl⟩
 have hX2 : Hid (v2.heap[w.heap.size]? = some (.cells (bkC b C1 q1 C2 q2 A3 p3) 39 (0,0))):=hd_ (by rw [← hv2];exact zqa kX.out)
 have hY2 : Hid (v2.heap[w.heap.size + 1]? = some (.cells #[.int .i64 0,.int .i64 0,.int .i64 0,.slice none 0 0,.slice none 0 0,.slice none 0 0] 39 (0,0))):=hd_ (by rw [← hv2];exact zjn (by simp) kY.out)
 have hB2 : Hid (Below w.heap.size w v2):=hd_ (by rw [← hv2];exact kB.out.setCell (Nat.le_refl _) _)
 have hO1:=hd_ (show Ow v2 w.heap.size 103 7 (.slice C1 b.cs.length q1) (b.cs.map Chan.cells) by rw [← hv2];exact kO1.out.aside kX.out (by decide) _)
 have hO2:=hd_ (show Ow v2 w.heap.size 70 7 (.slice C2 b.hs.length q2) (b.hs.map Htlc.cells) by rw [← hv2];exact kO2.out.aside kX.out (by decide) _)
 have hs2 : w2.heap.size = v2.heap.size:=by rw [← hv2];simp
 rw [hv2]
 try rw [hs2]
 clear hs2 hv2 kX kY kB xz kO1 kO2
 obtain ⟨_,x0,x1,x2,x3,x4,x5,xf,xz⟩:=own6 (Below.refl _ _) (gz_ hX2.out).1 hX2.out
 have yz:=(gz_ hY2.out).1
 refine zjs rfl _ _ _ rfl w.heap.size 93 k0 _ 5 40 Tryz.underlying37 HK0.out HK1.out HK2.out HK3.out rfl (by decide) _ _ [] 0 rfl (by rfl) (by first | exact Ow.empty_ rfl (by first | omega | (simp;done) | (simp;omega)) | exact Ow.empty_ (by simp) (by first | omega | (simp;done) | (simp;omega))) A3 p3 (b.os.map Circle.cells) b.os.length (by rw [List.length_map]) (by rfl) w.heap.size (HR.out.o.below (bl_)) (zkq b.os) (by rw [List.length_map];simp only [List.length_nil];omega) (by decide) (by first | omega | (simp;done) | (simp;omega)) ?_
 intro C3 q3 w3 how3 hb3 hg3
 simp only [Nat.zero_add,List.nil_append] at how3 ⊢
 have kX : Hid (w3.heap[w.heap.size]? = some (.cells (bkC b C1 q1 C2 q2 A3 p3) 39 (0,0))):=hd_ (zqj hg3 (by first | (simp [Value.ownBlock];done) | (simp [Value.ownBlock];omega)) (zqe xz hX2.out))
 have kY : Hid (w3.heap[w.heap.size + 1]? = some (.cells #[.int .i64 0,.int .i64 0,.int .i64 0,.slice none 0 0,.slice none 0 0,.slice none 0 0] 39 (0,0))):=hd_ (zqj hg3 (by first | (simp [Value.ownBlock];done) | (simp [Value.ownBlock];omega)) (zqe yz hY2.out))
 have kB : Hid (Below w.heap.size w w3):=hd_ (bl_)
 have kO1:=hd_ ((hO1.out.alloc _).grown hg3 (Or.inr (fun e => by have h9:=(hO1.out.block v2.heap.size (by first | exact e | exact e.symm)).2;omega)))
 have kO2:=hd_ ((hO2.out.alloc _).grown hg3 (Or.inr (fun e => by have h9:=(hO2.out.block v2.heap.size (by first | exact e | exact e.symm)).2;omega)))
 clear xf xz yz x0 x1 x2 x3 x4 x5 hO1 hO2 hX2 hY2 hB2
 have kO3:=hd_ how3
 clear how3 hb3 hg3
 obtain ⟨_,x0,x1,x2,x3,x4,x5,xf,xz⟩:=own6 (Below.refl _ _) (gz_ kX.out).1 kX.out
 obtain ⟨_,y0,y1,y2,y3,y4,y5,yf,_⟩:=own6 (Below.refl _ _) (gz_ kY.out).1 kY.out
 go_wp2_with (at_builtin;refine Stop.go ?_)
 clear x0 x1 x2 x3 x4 x5 xf y0 y1 y2 y3 y4 y5 yf
 obtain ⟨v3,hv3⟩ : ∃ v,w3.setCell ⟨w.heap.size,5,none⟩ (.slice C3 b.os.length q3) = v:=⟨_,rfl⟩
 have hX3 : Hid (v3.heap[w.heap.size]? = some (.cells (bkC b C1 q1 C2 q2 C3 q3) 39 (0,0))):=hd_ (by rw [← hv3];exact zqa kX.out)
 have hY3 : Hid (v3.heap[w.heap.size + 1]? = some (.cells #[.int .i64 0,.int .i64 0,.int .i64 0,.slice none 0 0,.slice none 0 0,.slice none 0 0] 39 (0,0))):=hd_ (by rw [← hv3];exact zjn (by simp) kY.out)
 have hB3 : Hid (Below w.heap.size w v3):=hd_ (by rw [← hv3];exact kB.out.setCell (Nat.le_refl _) _)
 have hO1:=hd_ (show Ow v3 w.heap.size 103 7 (.slice C1 b.cs.length q1) (b.cs.map Chan.cells) by rw [← hv3];exact kO1.out.aside kX.out (by decide) _)
 have hO2:=hd_ (show Ow v3 w.heap.size 70 7 (.slice C2 b.hs.length q2) (b.hs.map Htlc.cells) by rw [← hv3];exact kO2.out.aside kX.out (by decide) _)
 have hO3:=hd_ (show Ow v3 w.heap.size 93 5 (.slice C3 b.os.length q3) (b.os.map Circle.cells) by rw [← hv3];exact kO3.out.aside kX.out (by decide) _)
 have hs3 : w3.heap.size = v3.heap.size:=by rw [← hv3];simp
 rw [hv3]
 try rw [hs3]
 clear hs3 hv3 kX kY kB xz kO1 kO2 kO3
 obtain ⟨_,x0,x1,x2,x3,x4,x5,xf,xz⟩:=own6 (Below.refl _ _) (gz_ hX3.out).1 hX3.out
 have yz:=(gz_ hY3.out).1
 obtain ⟨vr,hvr⟩ : ∃ v,(((((v3.setCell ⟨w.heap.size + 1,0,none⟩ (.int .i64 b.t)).setCell ⟨w.heap.size + 1,1,none⟩ (.int .i64 b.n)).setCell ⟨w.heap.size + 1,2,none⟩ (.int .i64 b.w)).setCell ⟨w.heap.size + 1,3,none⟩ (.slice C1 b.cs.length q1)).setCell ⟨w.heap.size + 1,4,none⟩ (.slice C2 b.hs.length q2)).setCell ⟨w.heap.size + 1,5,none⟩ (.slice C3 b.os.length q3) = v:=⟨_,rfl⟩
 have hR : Hid (vr.heap[w.heap.size + 1]? = some (.cells (bkC b C1 q1 C2 q2 C3 q3) 39 (0,0))):=hd_ (by rw [← hvr];exact zqa (zqa (zqa (zqa (zqa (zqa hY3.out))))))
 have hG : Hid (v3.grownBy vr (some (w.heap.size + 1))):=hd_ (by rw [← hvr];exact zqg (zqg (zqg (zqg (zqg (zqg (World.grownBy.refl v3 (some (w.heap.size + 1))) _ _) _ _) _ _) _ _) _ _) _ _)
 rw [hvr]
 clear hvr x0 x1 x2 x3 x4 x5 xf xz yz
 obtain ⟨_,y0,y1,y2,y3,y4,y5,yf,_⟩:=own6 (Below.refl _ _) (gz_ hR.out).1 hR.out
 refine bodyPost_ret (v:=.agg #[.int .i64 b.t,.int .i64 b.n,.int .i64 b.w,.slice C1 b.cs.length q1,.slice C2 b.hs.length q2,.slice C3 b.os.length q3]) (by simp [results,Tryz.results63,go_sem, *]) rfl ?_
 refine ⟨_,_,_,_,_,_,rfl,⟨hO1.out.grown hG.out (Or.inr (hO1.out.ne_ hY3.out (by decide)).symm),hO2.out.grown hG.out (Or.inr (hO2.out.ne_ hY3.out (by decide)).symm),hO3.out.grown hG.out (Or.inr (hO3.out.ne_ hY3.out (by decide)).symm)⟩,hB3.out.grown hG.out (by have:=hB3.out.size;omega) (fun k e => by injection e with e;omega)⟩
end Go.Proofs.YtdbmkfmenfcbiaaGreat
namespace Go.Proofs.YtdbmkfmenfcbiaaGreat
open Go.RowKit Go.Deep
def OnlyX (X : Nat) (w w' : World) : Prop:=∀ k x,k ≠ X → w.heap[k]? = some x → w'.heap[k]? = some x
theorem OnlyX.refl (X : Nat) (w : World) : OnlyX X w w:=fun _ _ _ h => h
theorem OnlyX.set (X : Nat) (w : World) (i : Nat) (u : Value) : OnlyX X w (w.setCell ⟨X,i,none⟩ u):=fun _ _ hk h => zqb hk h
theorem OnlyX.of_below {X : Nat} {w w' : World} (hb : Below w.heap.size w w') : OnlyX X w w':=fun k _ _ h => (hb.block k (gz_ h).1).trans h
theorem OnlyX.trans {X : Nat} {w w' w'' : World} (h : OnlyX X w w') (h' : OnlyX X w' w'') : OnlyX X w w'':=fun k x hk hx => h' k x hk (h k x hk hx)
theorem zqv (w0 w : World) (B X : Nat) (b : Bk) (L : List Line) (A1 A2 A3 A4 : Option Addr) (p1 p2 p3 p4 : Nat) (c : Int) (hc : (c != 0) = true) (h : Wk 108 w0 w B X b L 0 A1 A2 A3 A4 p1 p2 p3 p4) :
  Calls Tryz.prog 64 #[.pointer (some ⟨X,0,none⟩),.bool true,.int .i64 c] w fun e w' => e = .returned (.bool true)∧Wk 108 w w' B X b L c A1 A2 A3 A4 p1 p2 p3 p4∧OnlyX X w w':=by
 have H:=hd_ h.here
 obtain ⟨a0,a1,a2,a3,a4,a5,a6,a7,af,az⟩:=h.open_
 clear h
 go_enter Tryz.func64,Tryz.ntmps64
 go_wp2_with fail
 go_ret
 exact ⟨rfl,H.out.setCode (by decide) (by decide) (by decide) (by decide) c,OnlyX.set _ _ _ _⟩
theorem zqm (w0 w : World) (B X : Nat) (b : Bk) (L : List Line) (A1 A2 A3 A4 : Option Addr) (p1 p2 p3 p4 : Nat) (c : Int) (h : Wk 108 w0 w B X b L 0 A1 A2 A3 A4 p1 p2 p3 p4) :
  Calls Tryz.prog 64 #[.pointer (some ⟨X,0,none⟩),.bool false,.int .i64 c] w fun e w' => e = .returned (.bool false)∧w = w':=by
 obtain ⟨a0,a1,a2,a3,a4,a5,a6,a7,af,az⟩:=h.open_
 clear h
 go_enter Tryz.func64,Tryz.ntmps64
 go_wp2_with fail
 go_ret
 exact ⟨rfl,rfl⟩
def Done (T : TypeId) (w : World) (B X : Nat) (b : Bk) (L : List Line) (code : Int) (e : Ending) (w' : World) : Prop :=
 ∃ (A1 A2 A3 A4 : Option Addr) (p1 p2 p3 p4 : Nat),e = .returned (.tuple #[])∧Wk T w w' B X b L code A1 A2 A3 A4 p1 p2 p3 p4
theorem zxk (w0 w : World) (B X : Nat) (b : Bk) (L : List Line) (code : Int) (A1 A2 A3 A4 : Option Addr) (p1 p2 p3 p4 : Nat) (k c a : Int) (hl : L.length ≤ 1000) (h : Wk 108 w0 w B X b L code A1 A2 A3 A4 p1 p2 p3 p4) :
  Calls Tryz.prog 66 #[.pointer (some ⟨X,0,none⟩),.int .i64 k,.int .i64 c,.int .i64 a] w (fun e w' => Done 108 w B X b (lineTo L k c a) code e w'∧OnlyX X w w'):=by
 have H:=hd_ h.here
 obtain ⟨a0,a1,a2,a3,a4,a5,a6,a7,af,az⟩:=h.open_
 clear h
 by_cases ha : a = 0
 ·
  have HE:=hd_ (show lineTo L k c a = L by unfold lineTo;rw [if_pos ha])
  have ta : (a != 0) = false:=by rw [ha];rfl
  clear ha
  go_enter Tryz.func66,Tryz.ntmps66
  go_wp2_with fail
  go_end0
  rw [HE.out]
  exact ⟨⟨_,_,_,_,_,_,_,_,rfl,H.out⟩,OnlyX.refl _ _⟩
 ·
  have HE:=hd_ (show lineTo L k c a = addF ⟨k,c,a⟩ L by unfold lineTo;rw [if_neg ha])
  have ta : (a != 0) = true:=by rw [bne_iff_ne];exact ha
  clear ha
  go_enter Tryz.func66,Tryz.ntmps66
  go_wp2_with fail
  refine (s_l02Add L _ _ k c a _ (by omega) H.out.l.rd).mono ?_
  rintro e w1 ⟨A',cap',rfl,how,hb1⟩
  have H1:=hd_ (H.out.below hb1)
  have HL:=hd_ (how.more H.out.ble)
  have HO:=hd_ (OnlyX.of_below (X:=X) hb1)
  clear hb1 how a0 a1 a2 a3 a4 a5 a6 a7 af az
  obtain ⟨a0,a1,a2,a3,a4,a5,a6,a7,af,az⟩:=H1.out.open_
  go_wp2_with fail
  go_end0
  rw [HE.out]
  exact ⟨⟨_,_,_,_,_,_,_,_,rfl,H1.out.setL (by decide) (by decide) (by decide) (by decide) HL.out⟩,HO.out.trans (OnlyX.set _ _ _ _)⟩
set_option maxRecDepth 100000 in
set_option maxHeartbeats 2000000 in
theorem zja (w0 w : World) (B X : Nat) (b : Bk) (L : List Line) (code : Int) (A1 A2 A3 A4 : Option Addr) (p1 p2 p3 p4 : Nat) (ch dl dr : Int) (hcl : b.cs.length ≤ 1048576) (hix : 0 ≤ chanIx b.cs ch) (hb : (-1152921504606846976 ≤ (chanOf b.cs ch).Local∧(chanOf b.cs ch).Local ≤ 1152921504606846976)∧(-1152921504606846976 ≤ (chanOf b.cs ch).Remote∧(chanOf b.cs ch).Remote ≤ 1152921504606846976)) (hdl : -1152921504606846976 ≤ dl∧dl ≤ 1152921504606846976) (hdr : -1152921504606846976 ≤ dr∧dr ≤ 1152921504606846976) (h : Wk 108 w0 w B X b L code A1 A2 A3 A4 p1 p2 p3 p4) :
  Calls Tryz.prog 113 #[.pointer (some ⟨X,0,none⟩),.int .i64 ch,.int .i64 dl,.int .i64 dr] w (fun e w' => e = .returned (.tuple #[])∧Wk 108 w w' B X ⟨b.t,b.n,b.w,moveC b.cs ch dl dr,b.hs,b.os⟩ L code A1 A2 A3 A4 p1 p2 p3 p4∧∀ g,A1 = some ⟨g,0,none⟩ → OnlyX g w w'):=by
 obtain ⟨i,hi⟩:=Int.eq_ofNat_of_zero_le hix
 have hlt : i < b.cs.length:=zxh hi
 have hof : chanOf b.cs ch = b.cs[i]:=by
  unfold chanOf
  rw [hi,Int.toNat_natCast,List.getD_eq_getElem?_getD,List.getElem?_eq_getElem hlt]
  rfl
 rw [hof] at hb
 have hm : moveC b.cs ch dl dr = b.cs.set i (moveF dl dr b.cs[i]):=by
  unfold moveC setCh
  rw [hi,Int.toNat_natCast,zpg hlt]
 have HIX:=hd_ hi
 have hr : (b.cs.map Chan.cells)[i]? = some b.cs[i].cells:=by rw [List.getElem?_map,List.getElem?_eq_getElem hlt];rfl
 obtain ⟨c,hc⟩ : ∃ c,b.cs[i] = c:=⟨_,rfl⟩
 rw [hc] at hb hm hr
 obtain ⟨k0,k1,k2,k3,k4,k5,k6⟩:=c
 have HM:=hd_ (show moveC b.cs ch dl dr = b.cs.set i ⟨k0,k1,k2 + dl,k3 + dr,k4,k5,k6⟩ from hm)
 obtain ⟨g,rfl,hBg⟩:=h.o.c.headW (by rw [List.length_map];omega)
 have H:=hd_ h.here
 have HRow:=hd_ hr
 obtain ⟨⟨b1,b2⟩,b3,b4⟩:=hb
 obtain ⟨b5,b6⟩:=hdl
 obtain ⟨b7,b8⟩:=hdr
 simp only at b1 b2 b3 b4
 obtain ⟨a0,a1,a2,a3,a4,a5,a6,a7,af,az⟩:=h.open_
 clear h hi hix hof hc hm hr
 have i0 : (0 : Int) ≤ (i : Int):=by omega
 have i1 : (i : Int) < (b.cs.length : Int):=by omega
 go_enter Tryz.func113,Tryz.ntmps113
 go_wp2_with fail
 refine (zjb b.t b.n b.w b.cs b.hs b.os _ _ _ _ _ _ ch _ hcl H.out.o.rd).mono ?_
 rintro e w1 ⟨rfl,hb1⟩
 rw [HIX.out]
 have H1:=hd_ (H.out.below hb1)
 have HG1:=hd_ (OnlyX.of_below (X:=g) hb1)
 clear hb1 a0 a1 a2 a3 a4 a5 a6 a7 af az
 obtain ⟨a0,a1,a2,a3,a4,a5,a6,a7,af,az⟩:=H1.out.open_
 have c0:=H1.out.o.c.cellAt HRow.out (j:=0) (by decide)
 have c1:=H1.out.o.c.cellAt HRow.out (j:=1) (by decide)
 have c2:=H1.out.o.c.cellAt HRow.out (j:=2) (by decide)
 have c3:=H1.out.o.c.cellAt HRow.out (j:=3) (by decide)
 have c4:=H1.out.o.c.cellAt HRow.out (j:=4) (by decide)
 have c5:=H1.out.o.c.cellAt HRow.out (j:=5) (by decide)
 have c6:=H1.out.o.c.cellAt HRow.out (j:=6) (by decide)
 simp only [Chan.cells,List.getElem?_cons_zero,List.getElem?_cons_succ,Nat.add_zero] at c0 c1 c2 c3 c4 c5 c6
 go_wp2_with fail
 obtain ⟨Y,hY⟩ : ∃ Y,Y = w1.heap.size:=⟨_,rfl⟩
 obtain ⟨wy,hwy⟩ : ∃ v,w1.alloc (.cells #[.int .i64 k0,.int .i64 k1,.int .i64 (k2 + dl),.int .i64 (k3 + dr),.int .i64 k4,.int .i64 k5,.int .i64 k6] 103) = v:=⟨_,rfl⟩
 have Hy : Hid (Wk 108 w wy B X b L code (some ⟨g,0,none⟩) A2 A3 A4 p1 p2 p3 p4):=hd_ (by rw [← hwy];exact H1.out.alloc _)
 have HY : Hid (Hx wy Y #[.int .i64 k0,.int .i64 k1,.int .i64 (k2 + dl),.int .i64 (k3 + dr),.int .i64 k4,.int .i64 k5,.int .i64 k6] 103):=hd_ (by rw [← hwy,hY];exact zqk rfl)
 have HG2 : Hid (OnlyX g w wy):=hd_ (by rw [← hwy];exact HG1.out.trans (OnlyX.of_below ((Below.refl _ _).alloc (Nat.le_refl _) _)))
 rw [hwy,← hY]
 clear HG1 hwy hY a0 a1 a2 a3 a4 a5 a6 a7 af az c0 c1 c2 c3 c4 c5 c6 H1
 refine wp_region_noPanic ?_
 refine zjx (S:=(fun w' => kqso w' X 3 (some ⟨g,0,none⟩) b.cs.length p1 (kqiiiiiii_ w' Y k0 k1 (k2 + dl) (k3 + dr) k4 k5 k6))) rfl (by kernel_rfl) (by kernel_rfl) (by kernel_rfl) (by kernel_rfl) ⟨Hy.out.open_.2.2.2.1,zqd HY.out 0,zqd HY.out 1,zqd HY.out 2,zqd HY.out 3,zqd HY.out 4,zqd HY.out 5,zqd HY.out 6⟩ (fun hHeld => ?_)
 obtain ⟨wd,hwd⟩ : ∃ wd,wy.drew = wd:=⟨_,rfl⟩
 have Hd : Hid (Wk 108 w wd B X b L code (some ⟨g,0,none⟩) A2 A3 A4 p1 p2 p3 p4):=hd_ (by rw [← hwd];exact Hy.out.drew)
 have HG3 : Hid (OnlyX g w wd):=hd_ (by rw [← hwd];exact HG2.out)
 rw [hwd] at hHeld ⊢
 clear hwd Hy HY HG2
 have c0:=Hd.out.o.c.cellAt HRow.out (j:=0) (by decide)
 have c1:=Hd.out.o.c.cellAt HRow.out (j:=1) (by decide)
 have c2:=Hd.out.o.c.cellAt HRow.out (j:=2) (by decide)
 have c3:=Hd.out.o.c.cellAt HRow.out (j:=3) (by decide)
 have c4:=Hd.out.o.c.cellAt HRow.out (j:=4) (by decide)
 have c5:=Hd.out.o.c.cellAt HRow.out (j:=5) (by decide)
 have c6:=Hd.out.o.c.cellAt HRow.out (j:=6) (by decide)
 simp only [Chan.cells,List.getElem?_cons_zero,List.getElem?_cons_succ,Nat.add_zero] at c0 c1 c2 c3 c4 c5 c6
 have cf:=fun j => Hd.out.o.c.frozenAt j
 simp only [List.dropLast]
 refine wpAnyH_take (i:=0) (v:=?v1) rfl (by kernel_rfl) (by kernel_rfl) (by kernel_rfl) (fun _ _ _ h => h) (Or.inl ⟨by rfl,?hy1⟩) (by assumption) ?rest1
 case hy1 => (intro w hSw;(try dsimp only at hSw);go_simp;(try with_reducible rfl))
 ((try simp only [Act.put]);(try simp only [List.setIfInBounds_toArray]);(repeat (first | simp only [List.set_cons_succ] | simp only [List.set_cons_zero])))
 refine wpAnyH_take (i:=1) (v:=?v2) rfl (by kernel_rfl) (by kernel_rfl) (by kernel_rfl) (fun _ _ _ h => h) (Or.inl ⟨by rfl,?hy2⟩) (by assumption) ?rest2
 case hy2 => (intro w hSw;(try dsimp only at hSw);go_simp;(try with_reducible rfl))
 ((try simp only [Act.put]);(try simp only [List.setIfInBounds_toArray]);(repeat (first | simp only [List.set_cons_succ] | simp only [List.set_cons_zero])))
 refine wpAnyH_take (i:=2) (v:=?v3) rfl (by kernel_rfl) (by kernel_rfl) (by kernel_rfl) (fun _ _ _ h => h) (Or.inl ⟨by rfl,?hy3⟩) (by assumption) ?rest3
 case hy3 => (intro w hSw;(try dsimp only at hSw);go_simp;(try with_reducible rfl))
 ((try simp only [Act.put]);(try simp only [List.setIfInBounds_toArray]);(repeat (first | simp only [List.set_cons_succ] | simp only [List.set_cons_zero])))
 refine wpAnyH_take (i:=3) (v:=?v4) rfl (by kernel_rfl) (by kernel_rfl) (by kernel_rfl) (fun _ _ _ h => h) (Or.inl ⟨by rfl,?hy4⟩) (by assumption) ?rest4
 case hy4 => (intro w hSw;(try dsimp only at hSw);go_simp;(try with_reducible rfl))
 ((try simp only [Act.put]);(try simp only [List.setIfInBounds_toArray]);(repeat (first | simp only [List.set_cons_succ] | simp only [List.set_cons_zero])))
 refine wpAnyH_take (i:=4) (v:=?v5) rfl (by kernel_rfl) (by kernel_rfl) (by kernel_rfl) (fun _ _ _ h => h) (Or.inl ⟨by rfl,?hy5⟩) (by assumption) ?rest5
 case hy5 => (intro w hSw;(try dsimp only at hSw);go_simp;(try with_reducible rfl))
 ((try simp only [Act.put]);(try simp only [List.setIfInBounds_toArray]);(repeat (first | simp only [List.set_cons_succ] | simp only [List.set_cons_zero])))
 refine wpAnyH_take (i:=5) (v:=?v6) rfl (by kernel_rfl) (by kernel_rfl) (by kernel_rfl) (fun _ _ _ h => h) (Or.inl ⟨by rfl,?hy6⟩) (by assumption) ?rest6
 case hy6 => (intro w hSw;(try dsimp only at hSw);go_simp;(try with_reducible rfl))
 ((try simp only [Act.put]);(try simp only [List.setIfInBounds_toArray]);(repeat (first | simp only [List.set_cons_succ] | simp only [List.set_cons_zero])))
 refine wpAnyH_take (i:=6) (v:=?v7) rfl (by kernel_rfl) (by kernel_rfl) (by kernel_rfl) (fun _ _ _ h => h) (Or.inl ⟨by rfl,?hy7⟩) (by assumption) ?rest7
 case hy7 => (intro w hSw;(try dsimp only at hSw);go_simp;(try with_reducible rfl))
 ((try simp only [Act.put]);(try simp only [List.setIfInBounds_toArray]);(repeat (first | simp only [List.set_cons_succ] | simp only [List.set_cons_zero])))
 refine wpAnyH_take (i:=7) (v:=?v8) rfl (by kernel_rfl) (by kernel_rfl) (by kernel_rfl) (fun _ _ _ h => h) (Or.inl ⟨by rfl,?hy8⟩) (by assumption) ?rest8
 case hy8 => (intro w hSw;(try dsimp only at hSw);go_simp;(try with_reducible rfl))
 ((try simp only [Act.put]);(try simp only [List.setIfInBounds_toArray]);(repeat (first | simp only [List.set_cons_succ] | simp only [List.set_cons_zero])))
 refine wpAnyH_done (by kernel_rfl) ?_ _
 intro KK hKK
 go_simp
 refine hKK _ _ (NoPanic.normal ?_)
 go_wp2_with fail
 go_end0
 rw [HM.out]
 refine ⟨rfl,H.out.trans (Hd.out.putChan (by decide) hlt ⟨k0,k1,k2 + dl,k3 + dr,k4,k5,k6⟩),fun g' hg' => ?_⟩
 injection hg' with hg'
 injection hg' with hg'
 subst hg'
 exact ((((((HG3.out.trans (OnlyX.set _ _ _ _)).trans (OnlyX.set _ _ _ _)).trans (OnlyX.set _ _ _ _)).trans (OnlyX.set _ _ _ _)).trans (OnlyX.set _ _ _ _)).trans (OnlyX.set _ _ _ _)).trans (OnlyX.set _ _ _ _)
end Go.Proofs.YtdbmkfmenfcbiaaGreat

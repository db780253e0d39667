/- The small steps of the program's work on a book. -/
import Derived.Test.YtdbmkfmenfcbiaaGreatRows
import Derived.Test.YtdbmkfmenfcbiaaGreatNSSettle
import Derived.Test.YtdbmkfmenfcbiaaGreatNM3
import Derived.Test.YtdbmkfmenfcbiaaGreatNMrg
import Derived.Test.YtdbmkfmenfcbiaaGreatNM2
import Derived.Deep.Cut
namespace Go.Proofs.YtdbmkfmenfcbiaaGreat
open Go.RowKit Go.Deep
def hAt (hs : List Htlc) (key : Int) : Int:=match hs.findIdx? (fun c => !notKeyH key c) with | some i => (i : Int) | none => -1
theorem hAt_none {hs : List Htlc} {key : Int} (h : (hs.take hs.length).all (notKeyH key) = true) : hAt hs key = -1:=by
 rw [List.take_length] at h
 have : hs.findIdx? (fun c => !notKeyH key c) = none:=by
  rw [List.findIdx?_eq_none_iff]
  intro x hx
  simp [List.all_eq_true.1 h x hx]
 unfold hAt
 rw [this]
theorem hAt_at {hs : List Htlc} {key : Int} {k : Nat} (hk : k < hs.length) (h : (hs.take k).all (notKeyH key) = true) (hc : notKeyH key hs[k] = false) : hAt hs key = (k : Int):=by
 have : hs.findIdx? (fun c => !notKeyH key c) = some k:=by
  rw [List.findIdx?_eq_some_iff_getElem]
  refine ⟨hk,by simp [hc],fun j hj => ?_⟩
  have hm : hs[j] ∈ hs.take k:=by
   rw [List.mem_take_iff_getElem]
   exact ⟨j,by omega,rfl⟩
  simp [List.all_eq_true.1 h _ hm]
 unfold hAt
 rw [this]
def oAt (os : List Circle) (key : Int) : Int:=match os.findIdx? (fun c => !notKeyC key c) with | some i => (i : Int) | none => -1
theorem oAt_none {os : List Circle} {key : Int} (h : (os.take os.length).all (notKeyC key) = true) : oAt os key = -1:=by
 rw [List.take_length] at h
 have : os.findIdx? (fun c => !notKeyC key c) = none:=by
  rw [List.findIdx?_eq_none_iff]
  intro x hx
  simp [List.all_eq_true.1 h x hx]
 unfold oAt
 rw [this]
theorem oAt_at {os : List Circle} {key : Int} {k : Nat} (hk : k < os.length) (h : (os.take k).all (notKeyC key) = true) (hc : notKeyC key os[k] = false) : oAt os key = (k : Int):=by
 have : os.findIdx? (fun c => !notKeyC key c) = some k:=by
  rw [List.findIdx?_eq_some_iff_getElem]
  refine ⟨hk,by simp [hc],fun j hj => ?_⟩
  have hm : os[j] ∈ os.take k:=by
   rw [List.mem_take_iff_getElem]
   exact ⟨j,by omega,rfl⟩
  simp [List.all_eq_true.1 h _ hm]
 unfold oAt
 rw [this]
theorem hAt_has {hs : List Htlc} {key : Int} : (hs.map Htlc.Key).any (· == key) = decide (0 ≤ hAt hs key):=by
 cases h : (hs.map Htlc.Key).any (· == key)
 ·
  have : (hs.take hs.length).all (notKeyH key) = true:=by
   rw [List.take_length,List.all_eq_true]
   intro x hx
   rw [List.any_eq_false] at h
   have:=h x.Key (List.mem_map.2 ⟨x,hx,rfl⟩)
   simpa [notKeyH] using this
  rw [hAt_none this]
  rfl
 rw [List.any_eq_true] at h
 obtain ⟨y,hy,he⟩:=h
 obtain ⟨x,hx,rfl⟩:=List.mem_map.1 hy
 cases hf : hs.findIdx? (fun c => !notKeyH key c) with
 | none =>
  rw [List.findIdx?_eq_none_iff] at hf
  have:=hf x hx
  simp [notKeyH] at this
  exact absurd (by simpa using he) this
 | some i =>
  unfold hAt
  rw [hf]
  exact (decide_eq_true (by simp)).symm
theorem oAt_has {os : List Circle} {key : Int} : (os.map Circle.Key).any (· == key) = decide (0 ≤ oAt os key):=by
 cases h : (os.map Circle.Key).any (· == key)
 ·
  have : (os.take os.length).all (notKeyC key) = true:=by
   rw [List.take_length,List.all_eq_true]
   intro x hx
   rw [List.any_eq_false] at h
   have:=h x.Key (List.mem_map.2 ⟨x,hx,rfl⟩)
   simpa [notKeyC] using this
  rw [oAt_none this]
  rfl
 rw [List.any_eq_true] at h
 obtain ⟨y,hy,he⟩:=h
 obtain ⟨x,hx,rfl⟩:=List.mem_map.1 hy
 cases hf : os.findIdx? (fun c => !notKeyC key c) with
 | none =>
  rw [List.findIdx?_eq_none_iff] at hf
  have:=hf x hx
  simp [notKeyC] at this
  exact absurd (by simpa using he) this
 | some i =>
  unfold oAt
  rw [hf]
  exact (decide_eq_true (by simp)).symm
theorem keys_at (hs : List Htlc) (os : List Circle) (key : Int) : hasB (keysOf hs os) key = (decide (0 ≤ hAt hs key) || decide (0 ≤ oAt os key)):=by
 unfold hasB keysOf
 rw [List.any_append,hAt_has,oAt_has]
def failF (code : Int) (is : Bool) (c : Int) : Int:=if is = true∧code = 0 then c else code
theorem zmy (is : Bool) (c : Int) : failF 0 is c = if is = true then c else 0:=by unfold failF;cases is <;> simp
theorem zhy {code c : Int} {is : Bool} (h : code ≠ 0) : failF code is c = code:=by unfold failF;rw [if_neg (fun h9 => h h9.2)]
theorem zkj {code c : Int} : failF code false c = code:=by unfold failF;rw [if_neg (fun h9 => by cases h9.1)]
structure ChAt (w : World) (g o : Nat) (c : Chan) : Prop where
 c0 : w.cell? ⟨g,o,none⟩ = some (.int .i64 c.Id)
 c1 : w.cell? ⟨g,o + 1,none⟩ = some (.int .i64 c.Size)
 c2 : w.cell? ⟨g,o + 2,none⟩ = some (.int .i64 c.Local)
 c3 : w.cell? ⟨g,o + 3,none⟩ = some (.int .i64 c.Remote)
 c4 : w.cell? ⟨g,o + 4,none⟩ = some (.int .i64 c.Base)
 c5 : w.cell? ⟨g,o + 5,none⟩ = some (.int .i64 c.Ppm)
 c6 : w.cell? ⟨g,o + 6,none⟩ = some (.int .i64 c.Score)
theorem OnlyX.cell {X k o : Nat} {w w' : World} {v : Value} (h : OnlyX X w w') (hk : k ≠ X) (hc : w.cell? ⟨k,o,none⟩ = some v) : w'.cell? ⟨k,o,none⟩ = some v:=by
 cases hb : w.heap[k]? with
 | none => simp [World.cell?,hb] at hc
 | some x =>
  have:=h k x hk hb
  simp only [World.cell?,hb,this] at hc ⊢
  exact hc
theorem ChAt.only {X g o : Nat} {w w' : World} {c : Chan} (h : ChAt w g o c) (ho : OnlyX X w w') (hg : g ≠ X) : ChAt w' g o c :=
 ⟨ho.cell hg h.c0,ho.cell hg h.c1,ho.cell hg h.c2,ho.cell hg h.c3,ho.cell hg h.c4,ho.cell hg h.c5,ho.cell hg h.c6⟩
theorem ChAt.block {w : World} {g o : Nat} {c : Chan} (h : ChAt w g o c) : g < w.heap.size:=by
 cases hb : w.heap[g]? with
 | none => have h0:=h.c0;simp [World.cell?,hb] at h0
 | some x => exact (gz_ hb).1
theorem ChAt.below {g o : Nat} {w w' : World} {c : Chan} (h : ChAt w g o c) (hb : Below w.heap.size w w') : ChAt w' g o c:=by
 have hg:=h.block
 have e : ∀ i,w'.cell? ⟨g,i,none⟩ = w.cell? ⟨g,i,none⟩:=fun i => hb.cell hg
 exact ⟨(e _).trans h.c0,(e _).trans h.c1,(e _).trans h.c2,(e _).trans h.c3,(e _).trans h.c4,(e _).trans h.c5,(e _).trans h.c6⟩
theorem rd_row {w : World} {g n : Nat} {t : TypeId} {row : List Value} (h : w.heap[g]? = some (.cells row.toArray t (0,0))) (hu : row.length = n) : Rd w w.heap.size n (some ⟨g,0,none⟩) [row]:=by
 refine ⟨fun r hr => by rw [List.mem_singleton.1 hr];exact hu,fun _ => ⟨g,0,rfl,(gz_ h).1,fun i r j v h1 h2 => ?_⟩⟩
 cases i with
 | succ i => simp at h1
 | zero =>
  simp only [List.getElem?_cons_zero,Option.some.injEq] at h1
  subst h1
  simp only [Nat.zero_mul,Nat.zero_add]
  rw [zqc h j]
  simpa using h2
set_option maxRecDepth 100000 in
set_option maxHeartbeats 4000000 in
theorem i_used (bt bn bw : Int) (cs : List Chan) (hs : List Htlc) (os : List Circle) (A1 A2 A3 : Option Addr) (p1 p2 p3 : Nat) (ch : Int) (w : World) (h60 : hs.length ≤ 60) (h20 : os.length ≤ 20) (hr : RdBook w w.heap.size A1 cs A2 hs A3 os) :
  Calls Tryz.prog 143 #[.agg #[.int .i64 bt,.int .i64 bn,.int .i64 bw,.slice A1 cs.length p1,.slice A2 hs.length p2,.slice A3 os.length p3],.int .i64 ch] w fun e w' => e = .returned (.bool (busyB hs os ch))∧Below w.heap.size w w':=by
 have HH:=hd_ hr.h
 have HO:=hd_ hr.o
 clear hr
 go_enter Tryz.func143,Tryz.ntmps143
 go_wp2_with fail
 go_loopw [12] (fun i wr => ∃ k : Nat,k ≤ hs.length∧i = .int .i64 k∧Hid ((hs.take k).any (usesH ch) = false)∧wr.heap[w.heap.size]? = some (.cells #[.int .i64 bt,.int .i64 bn,.int .i64 bw,.slice A1 cs.length p1,.slice A2 hs.length p2,.slice A3 os.length p3] 39 (0,0))∧Below w.heap.size w wr) (fun i _ => hs.length - (intOf i).toNat)
 case atStart => exact ⟨0,Nat.zero_le _,rfl,hd_ rfl,zqi rfl,bl_⟩
 case round =>
  obtain ⟨k,hk,rfl,HA,hbox,hbw⟩:=hrel
  have hbz:=hbw.size
  obtain ⟨eh,e0,e1,e2,e3,e4,e5,ef,ezz⟩:=own6 (Below.refl wr.heap.size wr) (gz_ hbox).1 hbox
  have EH:=hd_ eh
  clear eh hbox
  by_cases hlt : k < hs.length
  ·
   obtain ⟨b,off,rfl,hbB,c0,c1,c2,c3,c4,c5,c6⟩:=Htlc.rd (HH.out.below hbw) hlt
   clear e0 e1 e2 e3 e4 e5 ef
   have Fx:=hd_ (zjo hs (usesH ch) hlt)
   have HT:=hd_ (fun hp => zvw hs (usesH ch) hlt hp)
   cases t1 : (hs[k].In == ch)
   ·
    cases t2 : (hs[k].Out == ch)
    ·
     have Kx:=hd_ (show usesH ch hs[k] = false by simp only [usesH,t1,t2];rfl)
     go_wp2_with fail
     go_roundw
     case rel => exact ⟨k + 1,by omega,by go_num,hd_ (by rw [Fx.out,HA.out,Kx.out];rfl),zqd ezz EH.out,bl_⟩
     case measure => simp [intOf];omega
    have Kx:=hd_ (show busyB hs os ch = true by unfold busyB;rw [HT.out (by simp only [usesH,t2,Bool.or_true])];rfl)
    go_wp2_with fail
    go_ret
    exact ⟨zqf Kx.out.symm,bl_⟩
   have Kx:=hd_ (show busyB hs os ch = true by unfold busyB;rw [HT.out (by simp only [usesH,t1,Bool.true_or])];rfl)
   go_wp2_with fail
   go_ret
   exact ⟨zqf Kx.out.symm,bl_⟩
  obtain rfl : k = hs.length:=by omega
  have qx:=HA.out
  rw [List.take_length] at qx
  have Qx:=hd_ qx
  clear qx
  go_wp2_with fail
  obtain ⟨wo,rfl⟩ : ∃ wo : World,wo = wr:=⟨_,rfl⟩
  go_loopw [30] (fun i wr => ∃ k : Nat,k ≤ os.length∧i = .int .i64 k∧Hid ((os.take k).any (usesC ch) = false)∧wr.heap[w.heap.size]? = some (.cells #[.int .i64 bt,.int .i64 bn,.int .i64 bw,.slice A1 cs.length p1,.slice A2 hs.length p2,.slice A3 os.length p3] 39 (0,0))∧Below w.heap.size w wr) (fun i _ => os.length - (intOf i).toNat)
  case atStart => exact ⟨0,Nat.zero_le _,rfl,hd_ rfl,EH.out,bl_⟩
  case round =>
   obtain ⟨k,hk,rfl,HA,hbox,hbw⟩:=hrel
   have hbz:=hbw.size
   obtain ⟨eh,e0,e1,e2,e3,e4,e5,ef,ezz⟩:=own6 (Below.refl wr.heap.size wr) (gz_ hbox).1 hbox
   have EH:=hd_ eh
   clear eh hbox
   by_cases hlt : k < os.length
   rotate_left
   ·
    obtain rfl : k = os.length:=by omega
    have qy:=HA.out
    rw [List.take_length] at qy
    have Kx:=hd_ (show busyB hs os ch = false by unfold busyB;rw [Qx.out,qy];rfl)
    clear qy
    go_wp2_with fail
    go_ret
    exact ⟨zqf Kx.out.symm,bl_⟩
   obtain ⟨b,off,rfl,hbB,c0,c1,c2,c3,c4⟩:=Circle.rd (HO.out.below hbw) hlt
   clear e0 e1 e2 e3 e4 e5 ef
   have Fx:=hd_ (zjo os (usesC ch) hlt)
   have HT:=hd_ (fun hp => zvw os (usesC ch) hlt hp)
   cases t1 : (os[k].From == ch)
   ·
    cases t2 : (os[k].To == ch)
    ·
     have Kx:=hd_ (show usesC ch os[k] = false by simp only [usesC,t1,t2];rfl)
     go_wp2_with fail
     go_roundw
     case rel => exact ⟨k + 1,by omega,by go_num,hd_ (by rw [Fx.out,HA.out,Kx.out];rfl),zqd ezz EH.out,bl_⟩
     case measure => simp [intOf];omega
    have Kx:=hd_ (show busyB hs os ch = true by unfold busyB;rw [HT.out (by simp only [usesC,t2,Bool.or_true])];simp)
    go_wp2_with fail
    go_ret
    exact ⟨zqf Kx.out.symm,bl_⟩
   have Kx:=hd_ (show busyB hs os ch = true by unfold busyB;rw [HT.out (by simp only [usesC,t1,Bool.true_or])];simp)
   go_wp2_with fail
   go_ret
   exact ⟨zqf Kx.out.symm,bl_⟩
set_option maxRecDepth 100000 in
set_option maxHeartbeats 1000000 in
theorem zya (bt bn bw : Int) (cs : List Chan) (hs : List Htlc) (os : List Circle) (A1 A2 A3 : Option Addr) (p1 p2 p3 : Nat) (key : Int) (w : World) (hl : hs.length ≤ 1048576) (hr : RdBook w w.heap.size A1 cs A2 hs A3 os) :
  Calls Tryz.prog 35 #[.agg #[.int .i64 bt,.int .i64 bn,.int .i64 bw,.slice A1 cs.length p1,.slice A2 hs.length p2,.slice A3 os.length p3],.int .i64 key] w fun e w' => e = .returned (.int .i64 (hAt hs key))∧Below w.heap.size w w':=by
 have HR:=hd_ hr.h
 clear hr
 go_enter Tryz.func35,Tryz.ntmps35
 go_wp2_with fail
 go_loopw [10] (fun i wr => ∃ k : Nat,k ≤ hs.length∧i = .int .i64 k∧Hid ((hs.take k).all (notKeyH key) = true)∧Below w.heap.size w wr) (fun i _ => hs.length - (intOf i).toNat)
 case atStart => exact ⟨0,Nat.zero_le _,rfl,hd_ rfl,bl_⟩
 case round =>
  obtain ⟨k,hk,rfl,HA,hbw⟩:=hrel
  have hbz:=hbw.size
  by_cases hlt : k < hs.length
  ·
   obtain ⟨b,off,rfl,hbB,c0,c1,c2,c3,c4,c5,c6⟩:=Htlc.rd (HR.out.below hbw) hlt
   cases hch : (hs[k].Key == key)
   ·
    have HC:=hd_ (show notKeyH key hs[k] = true by simp [notKeyH,bne,hch])
    go_wp2_with fail
    go_roundw
    case rel => exact ⟨k + 1,by omega,by go_num,hd_ (by rw [zxr hs _ hlt,HA.out,HC.out];rfl),bl_⟩
    case measure => simp [intOf];omega
   have HC:=hd_ (show notKeyH key hs[k] = false by simp [notKeyH,bne,hch])
   go_wp2_with fail
   go_ret
   exact ⟨zxc (hAt_at hlt HA.out HC).symm,bl_⟩
  obtain rfl : k = hs.length:=by omega
  go_wp2_with fail
  go_ret
  exact ⟨zxc (hAt_none HA).symm,bl_⟩
set_option maxRecDepth 100000 in
set_option maxHeartbeats 1000000 in
theorem zhn (bt bn bw : Int) (cs : List Chan) (hs : List Htlc) (os : List Circle) (A1 A2 A3 : Option Addr) (p1 p2 p3 : Nat) (key : Int) (w : World) (hl : os.length ≤ 1048576) (hr : RdBook w w.heap.size A1 cs A2 hs A3 os) :
  Calls Tryz.prog 49 #[.agg #[.int .i64 bt,.int .i64 bn,.int .i64 bw,.slice A1 cs.length p1,.slice A2 hs.length p2,.slice A3 os.length p3],.int .i64 key] w fun e w' => e = .returned (.int .i64 (oAt os key))∧Below w.heap.size w w':=by
 have HR:=hd_ hr.o
 clear hr
 go_enter Tryz.func49,Tryz.ntmps49
 go_wp2_with fail
 go_loopw [10] (fun i wr => ∃ k : Nat,k ≤ os.length∧i = .int .i64 k∧Hid ((os.take k).all (notKeyC key) = true)∧Below w.heap.size w wr) (fun i _ => os.length - (intOf i).toNat)
 case atStart => exact ⟨0,Nat.zero_le _,rfl,hd_ rfl,bl_⟩
 case round =>
  obtain ⟨k,hk,rfl,HA,hbw⟩:=hrel
  have hbz:=hbw.size
  by_cases hlt : k < os.length
  ·
   obtain ⟨b,off,rfl,hbB,c0,c1,c2,c3,c4⟩:=Circle.rd (HR.out.below hbw) hlt
   cases hch : (os[k].Key == key)
   ·
    have HC:=hd_ (show notKeyC key os[k] = true by simp [notKeyC,bne,hch])
    go_wp2_with fail
    go_roundw
    case rel => exact ⟨k + 1,by omega,by go_num,hd_ (by rw [zxr os _ hlt,HA.out,HC.out];rfl),bl_⟩
    case measure => simp [intOf];omega
   have HC:=hd_ (show notKeyC key os[k] = false by simp [notKeyC,bne,hch])
   go_wp2_with fail
   go_ret
   exact ⟨zxc (oAt_at hlt HA.out HC).symm,bl_⟩
  obtain rfl : k = os.length:=by omega
  go_wp2_with fail
  go_ret
  exact ⟨zxc (oAt_none HA).symm,bl_⟩
set_option maxRecDepth 100000 in
set_option maxHeartbeats 1000000 in
theorem i_known (bt bn bw : Int) (cs : List Chan) (hs : List Htlc) (os : List Circle) (A1 A2 A3 : Option Addr) (p1 p2 p3 : Nat) (key : Int) (w : World) (hl1 : hs.length ≤ 1048576) (hl2 : os.length ≤ 1048576) (hr : RdBook w w.heap.size A1 cs A2 hs A3 os) :
  Calls Tryz.prog 144 #[.agg #[.int .i64 bt,.int .i64 bn,.int .i64 bw,.slice A1 cs.length p1,.slice A2 hs.length p2,.slice A3 os.length p3],.int .i64 key] w fun e w' => e = .returned (.bool (hasB (keysOf hs os) key))∧Below w.heap.size w w':=by
 have HR:=hd_ hr
 have HE:=hd_ (keys_at hs os key)
 clear hr
 obtain ⟨x,hx⟩ : ∃ x,hAt hs key = x:=⟨_,rfl⟩
 obtain ⟨y,hy⟩ : ∃ y,oAt os key = y:=⟨_,rfl⟩
 rw [hx,hy] at HE
 have HX:=hd_ hx
 have HY:=hd_ hy
 clear hx hy
 have HG_w : Hid (Below w.heap.size w w):=hd_ (Below.refl _ _)
 by_cases h0 : 0 ≤ x
 all_goals
  go_enter Tryz.func144,Tryz.ntmps144
  go_wp2_with fail
  refine nm_ ?_
  intro w1 hw
  have HG1 : Hid (Below w.heap.size w w1):=hd_ (by rw [hw];exact (HG_w.out).alloc (by have:=HG_w.out.size;first | omega | (simp;omega)) _)
  obtain ⟨KB,h9K⟩ : ∃ v,v = w.heap.size:=⟨_,rfl⟩
  have HK1 : Hid (Hx w1 KB (qaiiisss bt bn bw A1 cs.length p1 A2 hs.length p2 A3 os.length p3) 39):=hd_ (by rw [hw,h9K];exact zqi (by first | rfl | (simp;done)))
  have HLK : Hid (w.heap.size ≤ KB):=hd_ (by have:=HG_w.out.size;omega)
  try rw [← h9K]
  clear hw h9K
  obtain ⟨K,Kf,Kz⟩:=bc6_ HK1
  refine (zya bt bn bw cs hs os _ _ _ _ _ _ key _ hl1 ((HR.out.below HG1).more HG1.out.size)).mono ?_
  rintro e' w2 ⟨rfl,hb⟩
  rw [HX.out]
  have HG2:=hd_ (HG1.out.trans (hb.mono HG1.out.size))
  have HK2:=hb_ hb HK1
  clear hb
  clear K Kf Kz
  obtain ⟨K,Kf,Kz⟩:=bc6_ HK2
  go_wp2_with fail
 ·
  go_ret
  exact ⟨zqf (by rw [HE.out,decide_eq_true h0];rfl),HG2.out⟩
 refine (zhn bt bn bw cs hs os _ _ _ _ _ _ key _ hl2 ((HR.out.below HG2).more HG2.out.size)).mono ?_
 rintro e' w3 ⟨rfl,hb⟩
 rw [HY.out]
 have HG3:=hd_ (HG2.out.trans (hb.mono HG2.out.size))
 have HK3:=hb_ hb HK2
 clear hb
 clear K Kf Kz
 obtain ⟨K,Kf,Kz⟩:=bc6_ HK3
 go_wp2_with fail
 go_ret
 exact ⟨zqf (by rw [HE.out,decide_eq_false (by omega : ¬ 0 ≤ x),Bool.false_or]),HG3.out⟩
theorem zjf (w0 w : World) (B X : Nat) (b : Bk) (L : List Line) (code : Int) (A1 A2 A3 A4 : Option Addr) (p1 p2 p3 p4 : Nat) (is : Bool) (c : Int) (h : Wk 136 w0 w B X b L code A1 A2 A3 A4 p1 p2 p3 p4) :
  Calls Tryz.prog 142 #[.pointer (some ⟨X,0,none⟩),.bool is,.int .i64 c] w fun e w' => e = .returned (.tuple #[])∧Wk 136 w w' B X b L (failF code is c) A1 A2 A3 A4 p1 p2 p3 p4∧OnlyX X w w':=by
 have H:=hd_ h.here
 obtain ⟨ja,af,az⟩:=opc_ h.open_
 clear h
 cases is
 ·
  rw [zkj]
  go_enter Tryz.func142,Tryz.ntmps142
  go_wp2_with fail
  go_end0
  exact ⟨rfl,H.out,OnlyX.refl _ _⟩
 by_cases h0 : code = 0
 ·
  have HE:=hd_ (show failF code true c = c by unfold failF;rw [if_pos ⟨rfl,h0⟩])
  have t0 : (code == 0) = true:=by rw [h0];rfl
  clear h0
  go_enter Tryz.func142,Tryz.ntmps142
  go_wp2_with fail
  go_end0
  rw [HE.out]
  exact ⟨rfl,H.out.setCode (by decide) (by decide) (by decide) (by decide) c,OnlyX.set _ _ _ _⟩
 have HE:=hd_ (show failF code true c = code from zhy h0)
 have t0 : (code == 0) = false:=by rw [beq_eq_false_iff_ne];exact h0
 clear h0
 go_enter Tryz.func142,Tryz.ntmps142
 go_wp2_with fail
 go_end0
 rw [HE.out]
 exact ⟨rfl,H.out,OnlyX.refl _ _⟩
theorem zjg (w0 w : World) (B X : Nat) (b : Bk) (L : List Line) (code : Int) (A1 A2 A3 A4 : Option Addr) (p1 p2 p3 p4 : Nat) (k c a : Int) (hl : L.length ≤ 1000) (ha : -1125899906842624 ≤ a∧a ≤ 1125899906842624) (hb : ∀ y ∈ L,-1125899906842624 ≤ y.Amt∧y.Amt ≤ 1125899906842624) (hn : ∀ y ∈ L,¬(y.Kind = k∧y.Ch = c)) (h : Wk 136 w0 w B X b L code A1 A2 A3 A4 p1 p2 p3 p4) :
  Calls Tryz.prog 88 #[.pointer (some ⟨X,0,none⟩),.int .i64 k,.int .i64 c,.int .i64 a] w (fun e w' => Done 136 w B X b (lineTo L k c a) code e w'∧OnlyX X w w'):=by
 have H:=hd_ h.here
 obtain ⟨ja,af,az⟩:=opc_ h.open_
 clear h
 by_cases h0 : a = 0
 ·
  have HE:=hd_ (show lineTo L k c a = L by unfold lineTo;rw [if_pos h0])
  have ta : (a != 0) = false:=by rw [h0];rfl
  clear h0 ha
  go_enter Tryz.func88,Tryz.ntmps88
  go_wp2_with fail
  go_end0
  rw [HE.out]
  exact ⟨⟨_,_,_,_,_,_,_,_,rfl,H.out⟩,OnlyX.refl _ _⟩
 have HE:=hd_ (show lineTo L k c a = addF ⟨k,c,a⟩ L by unfold lineTo;rw [if_neg h0])
 have ta : (a != 0) = true:=by rw [bne_iff_ne];exact h0
 have HM:=hd_ (zmi ⟨k,c,a⟩ L hn)
 have HB:=hd_ hb
 have HA:=hd_ ha
 clear h0 hn hb ha
 go_enter Tryz.func88,Tryz.ntmps88
 go_wp2_with fail
 refine nm_ ?_
 intro v hw
 have HV:=wka_ hw H
 have HR : Hid (Rd v v.heap.size 3 (some ⟨w.heap.size,0,none⟩) [[.int .i64 k,.int .i64 c,.int .i64 a]]):=hd_ (by rw [hw];exact rd_row (t:=99) (zqi (by first | rfl | (simp;done))) rfl)
 have HO:=hd_ (show OnlyX X w v by rw [hw];exact OnlyX.of_below ((Below.refl _ _).alloc (Nat.le_refl _) _))
 clear hw ja af az
 refine (i_merged L [⟨k,c,a⟩] A4 (some ⟨w.heap.size,0,none⟩) p4 1 v (by simp only [List.length_cons,List.length_nil];omega) (by obtain ⟨_,_,e9,_,h9,_⟩:=HV.out.l.form;injection e9 with _ _ e9;rw [e9];simpa using h9) (Nat.le_refl 1) HB (fun x hx => by rw [List.mem_singleton.1 hx];exact HA) HV.out.l.rd HR).mono ?_
 rintro e w1 ⟨o,C,q,rfl,ho,how,hb1⟩
 have hoe:=ho _ HM
 subst hoe
 have H1:=hd_ (HV.out.below hb1)
 have HL:=hd_ (how.more HV.out.ble)
 have HO1:=hd_ (HO.out.trans (OnlyX.of_below (X:=X) hb1))
 clear hb1 how ho
 obtain ⟨ja,af,az⟩:=opc_ H1.out.open_
 go_wp2_with fail
 go_end0
 rw [HE.out]
 exact ⟨⟨_,_,_,_,_,_,_,_,rfl,H1.out.setL (by decide) (by decide) (by decide) (by decide) HL.out⟩,HO1.out.trans (OnlyX.set _ _ _ _)⟩
set_option maxRecDepth 100000 in
set_option maxHeartbeats 2000000 in
theorem i_ch (w0 w : World) (B X : Nat) (b : Bk) (L : List Line) (code : Int) (A1 A2 A3 A4 : Option Addr) (p1 p2 p3 p4 : Nat) (id : Int) (hcl : b.cs.length ≤ 1048576) (h : Wk 136 w0 w B X b L code A1 A2 A3 A4 p1 p2 p3 p4) :
  Calls Tryz.prog 91 #[.pointer (some ⟨X,0,none⟩),.int .i64 id] w fun e w' => ∃ (g o : Nat) (c : Chan),e = .returned (.pointer (some ⟨g,o,none⟩))∧ChAt w' g o c∧g ≠ X∧Wk 136 w w' B X b L (failF code (decide (chanIx b.cs id < 0)) 6) A1 A2 A3 A4 p1 p2 p3 p4∧OnlyX X w w'∧(0 ≤ chanIx b.cs id → A1 = some ⟨g,0,none⟩∧o = (chanIx b.cs id).toNat * 7∧c = chanOf b.cs id):=by
 have H:=hd_ h.here
 obtain ⟨ja,af,az⟩:=opc_ h.open_
 clear h
 obtain ⟨x,hx⟩ : ∃ x,chanIx b.cs id = x:=⟨_,rfl⟩
 rw [hx]
 have HX:=hd_ hx
 by_cases h0 : x < 0
 ·
  have HD : Hid (decide (x < 0) = true):=hd_ (decide_eq_true h0)
  clear hx
  rw [HD.out]
  go_enter Tryz.func91,Tryz.ntmps91
  go_wp2_with fail
  refine (zkc b.t b.n b.w b.cs b.hs b.os _ _ _ _ _ _ id _ hcl ⟨H.out.o.c.rd,H.out.o.h.rd,H.out.o.o.rd⟩).mono ?_
  rintro e w1 ⟨rfl,hb1⟩
  rw [HX.out]
  have H1:=hd_ (H.out.below hb1)
  have HO1:=hd_ (OnlyX.of_below (X:=X) hb1)
  clear hb1 ja af az
  go_wp2_with fail
  refine (zjf _ _ B X b L code A1 A2 A3 A4 p1 p2 p3 p4 true 6 H1).mono ?_
  rintro e w2 ⟨rfl,h2,ho2⟩
  have H2:=hd_ (H1.out.trans h2)
  have HO2:=hd_ (HO1.out.trans ho2)
  have hlt2:=h2.lt
  clear h2 ho2
  go_wp2_with fail
  go_ret
  refine ⟨w2.heap.size,0,chan0,rfl,?_,by omega,H2.out.alloc _,HO2.out.trans (OnlyX.of_below ((Below.refl _ _).alloc (Nat.le_refl _) _)),fun h9 => by omega⟩
  have hb:=zqi (w:=w2) (o:=.cells #[.int .i64 0,.int .i64 0,.int .i64 0,.int .i64 0,.int .i64 0,.int .i64 0,.int .i64 0] 103 (0,0)) rfl
  exact ⟨zqc hb 0,zqc hb 1,zqc hb 2,zqc hb 3,zqc hb 4,zqc hb 5,zqc hb 6⟩
 have HD : Hid (decide (x < 0) = false):=hd_ (decide_eq_false h0)
 obtain ⟨i,hi⟩:=Int.eq_ofNat_of_zero_le (show 0 ≤ x by omega)
 subst hi
 have hlt:=zxm hx
 have HO0:=hd_ (show chanOf b.cs id = b.cs[i] by unfold chanOf;rw [hx,Int.toNat_natCast,List.getD_eq_getElem?_getD,List.getElem?_eq_getElem hlt];rfl)
 clear hx h0
 rw [HD.out,zkj]
 obtain ⟨g,hA,hBg⟩:=H.out.o.c.headW (by rw [List.length_map];omega)
 subst hA
 have ix0 : (0 : Int) ≤ (i : Int):=by omega
 have ix1 : (i : Int) < (b.cs.length : Int):=by omega
 go_enter Tryz.func91,Tryz.ntmps91
 go_wp2_with fail
 refine (zkc b.t b.n b.w b.cs b.hs b.os _ _ _ _ _ _ id _ hcl ⟨H.out.o.c.rd,H.out.o.h.rd,H.out.o.o.rd⟩).mono ?_
 rintro e w1 ⟨rfl,hb1⟩
 rw [HX.out]
 have H1:=hd_ (H.out.below hb1)
 have HO1:=hd_ (OnlyX.of_below (X:=X) hb1)
 clear hb1 ja af az
 obtain ⟨ja,af,az⟩:=opc_ H1.out.open_
 go_wp2_with fail
 go_ret
 obtain ⟨cur,hh⟩:=H1.out.o.c.heapW
 have hr : (b.cs.map Chan.cells)[i]? = some b.cs[i].cells:=by rw [List.getElem?_map,List.getElem?_eq_getElem hlt];rfl
 have hc : ∀ j,j < 7 → w1.cell? ⟨g,i * 7 + j,none⟩ = b.cs[i].cells[j]?:=fun j hj => H1.out.o.c.cellAt hr hj
 refine ⟨g,i * 7,b.cs[i],rfl,⟨hc 0 (by decide),hc 1 (by decide),hc 2 (by decide),hc 3 (by decide),hc 4 (by decide),hc 5 (by decide),hc 6 (by decide)⟩,fun e => ?_,H1.out,HO1.out,fun _ => ⟨rfl,by rw [Int.toNat_natCast],HO0.out.symm⟩⟩
 subst e
 rw [H1.out.x] at hh
 injection hh with hh
 injection hh with _ hh
 exact absurd hh (by decide)
end Go.Proofs.YtdbmkfmenfcbiaaGreat

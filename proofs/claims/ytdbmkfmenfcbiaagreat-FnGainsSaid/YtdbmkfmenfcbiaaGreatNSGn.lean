/- Gains: the reference's walks. -/
import Derived.Test.YtdbmkfmenfcbiaaGreatRows
import Derived.Test.YtdbmkfmenfcbiaaGreatNM4
import Derived.Test.YtdbmkfmenfcbiaaGreatNM3
import Derived.Test.YtdbmkfmenfcbiaaGreatNM2
import Derived.Deep.Cut
namespace Go.Proofs.YtdbmkfmenfcbiaaGreat
open Go.RowKit Go.Deep
def notKey (key : Int) (h : Htlc) : Bool:=!(h.Key == key)
def htlcD (hs : List Htlc) (key : Int) : Htlc:=(htlcF hs key).getD ⟨0,0,0,0,0,false,0⟩
theorem htlcF_none {hs : List Htlc} {key : Int} (h : (hs.take hs.length).all (notKey key) = true) : htlcF hs key = none:=by
 rw [List.take_length] at h
 unfold htlcF
 rw [List.find?_eq_none]
 intro x hx
 have:=List.all_eq_true.1 h x hx
 simpa [notKey] using this
theorem htlcF_at {hs : List Htlc} {key : Int} {k : Nat} (hk : k < hs.length) (h : (hs.take k).all (notKey key) = true) (hc : (hs[k].Key == key) = true) : htlcF hs key = some hs[k]:=by
 have e : hs = hs.take k ++ hs[k] :: hs.drop (k + 1):=by rw [List.getElem_cons_drop,List.take_append_drop]
 unfold htlcF
 have h1 : (hs.take k).find? (fun h => h.Key == key) = none:=by
  rw [List.find?_eq_none]
  intro x hx
  have:=List.all_eq_true.1 h x hx
  simpa [notKey] using this
 have h2 : (hs.take k ++ hs[k] :: hs.drop (k + 1)).find? (fun h => h.Key == key) = some hs[k]:=by
  rw [List.find?_append,h1,Option.none_or]
  exact List.find?_cons_of_pos hc
 rwa [← e] at h2
theorem gz2 {w : World} {n : Nat} {x : Obj} (h : w.heap[n]? = some x) : n < w.heap.size:=(gz_ h).1
def HtP (w : World) (hs : List Htlc) (key : Int) (e : Ending) (w' : World) : Prop:=e = .returned (.tuple #[.agg #[.int .i64 (htlcD hs key).Key,.int .i64 (htlcD hs key).In,.int .i64 (htlcD hs key).Out,.int .i64 (htlcD hs key).AmtIn,.int .i64 (htlcD hs key).AmtOut,.bool (htlcD hs key).Kept,.int .i64 (htlcD hs key).Age],.bool (htlcF hs key).isSome])∧Below w.heap.size w w'
set_option maxRecDepth 100000 in
set_option maxHeartbeats 2000000 in
theorem s_l22Htlc (bt bn bw : Int) (cs : List Chan) (hs : List Htlc) (os : List Circle) (A1 A2 A3 : Option Addr) (p1 p2 p3 : Nat) (key : Int) (w : World) (hlh : hs.length ≤ 1048576) (hr : RdBook w w.heap.size A1 cs A2 hs A3 os) :
  Calls Tryz.prog 30 #[.agg #[.int .i64 bt,.int .i64 bn,.int .i64 bw,.slice A1 cs.length p1,.slice A2 hs.length p2,.slice A3 os.length p3],.int .i64 key] w (HtP w hs key):=by
 have HH:=hd_ hr.h
 clear hr
 go_enter Tryz.func30,Tryz.ntmps30
 go_wp2_with fail
 go_loopw [11] (fun i wr => ∃ k : Nat,k ≤ hs.length∧i = .int .i64 k∧Hid ((hs.take k).all (notKey key) = true)∧Hid (wr.heap[w.heap.size + 1]? = some (.cells #[.int .i64 0,.int .i64 0,.int .i64 0,.int .i64 0,.int .i64 0,.bool false,.int .i64 0] 70 (0,0)))∧Below w.heap.size w wr) (fun i _ => hs.length - (intOf i).toNat)
 case atStart => exact ⟨0,Nat.zero_le _,rfl,hd_ rfl,hd_ (hp_),bl_⟩
 case round =>
  obtain ⟨k,hk,rfl,HA,HR,hbw⟩:=hrel
  have hbz:=hbw.size
  have rz:=(gz_ HR).1
  by_cases hlt : k < hs.length
  ·
   obtain ⟨b,off,rfl,hbB,c0,c1,c2,c3,c4,c5,c6⟩:=Htlc.rd (HH.out.below hbw) hlt
   have Fx:=hd_ (zxr hs (notKey key) hlt)
   cases t1 : (hs[k].Key == key)
   ·
    have Kx:=hd_ (show notKey key hs[k] = true by unfold notKey;rw [t1];rfl)
    go_wp2_with fail
    go_roundw
    case rel => exact ⟨k + 1,by omega,by go_num,hd_ (by rw [Fx.out,HA.out,Kx.out];rfl),hd_ (zqd rz HR),bl_⟩
    case measure => simp [intOf];omega
   have HE:=hd_ (htlcF_at hlt HA.out t1)
   obtain ⟨RB,hRB⟩ : ∃ v,v = w.heap.size + 1:=⟨_,rfl⟩
   rw [← hRB] at rz HR ⊢
   have HGE : Hid (w.heap.size ≤ RB):=hd_ (by omega)
   clear hRB
   have rf:=zqm HR
   have r:=bd7_ HR
   go_wp2_with fail
   refine nm_ ?_
   intro w9 hw
   have HR9 : Hid (Hx w9 RB (qaiiiiibi (hs[k].Key) (hs[k].In) (hs[k].Out) (hs[k].AmtIn) (hs[k].AmtOut) (hs[k].Kept) (hs[k].Age)) 70):=hd_ (by rw [hw];exact zqd (by simp;omega) (zqa (zqa (zqa (zqa (zqa (zqa (zqa HR))))))))
   have HB9 : Hid (Below w.heap.size w w9):=hd_ (by rw [hw];exact ((((((((hbw).setCell HGE.out _).setCell HGE.out _).setCell HGE.out _).setCell HGE.out _).setCell HGE.out _).setCell HGE.out _).setCell HGE.out _).alloc (by simp;omega) _)
   clear hw r rf c0 c1 c2 c3 c4 c5 c6
   have r:=bd7_ HR9
   refine bodyPost_ret (v:=.tuple #[.agg #[.int .i64 hs[k].Key,.int .i64 hs[k].In,.int .i64 hs[k].Out,.int .i64 hs[k].AmtIn,.int .i64 hs[k].AmtOut,.bool hs[k].Kept,.int .i64 hs[k].Age],.bool true]) (by simp [results,Tryz.results30,go_sem, *]) rfl ?_
   exact ⟨by unfold htlcD;rw [HE.out];rfl,HB9.out⟩
  obtain rfl : k = hs.length:=by omega
  have HE:=hd_ (htlcF_none HA)
  obtain ⟨RB,hRB⟩ : ∃ v,v = w.heap.size + 1:=⟨_,rfl⟩
  rw [← hRB] at rz HR ⊢
  have HGE : Hid (w.heap.size ≤ RB):=hd_ (by omega)
  clear hRB
  have rf:=zqm HR
  have r:=bd7_ HR
  go_wp2_with fail
  refine nm_ ?_
  intro w9 hw
  have HR9 : Hid (Hx w9 RB (qaiiiiibi 0 0 0 0 0 false 0) 70):=hd_ (by rw [hw];exact zqa (zqa (zqa (zqa (zqa (zqa (zqa HR)))))))
  have HB9 : Hid (Below w.heap.size w w9):=hd_ (by rw [hw];exact (((((((hbw).setCell HGE.out _).setCell HGE.out _).setCell HGE.out _).setCell HGE.out _).setCell HGE.out _).setCell HGE.out _).setCell HGE.out _)
  clear hw r rf
  have r:=bd7_ HR9
  refine bodyPost_ret (v:=.tuple #[.agg #[.int .i64 0,.int .i64 0,.int .i64 0,.int .i64 0,.int .i64 0,.bool false,.int .i64 0],.bool false]) (by simp [results,Tryz.results30,go_sem, *]) rfl ?_
  exact ⟨by unfold htlcD;rw [HE.out];rfl,HB9.out⟩
theorem zho : (Tryz.prog.info? 79).map (fun i => (i.zero,i.size,i.bytes)) = some (some (.agg #[.int .i64 0,.int .i64 0,.int .i64 0,.int .i64 0]),4,32):=by kernel_rfl
def GsP (w : World) (l : List Gain) (e : Ending) (w' : World) : Prop:=∃ (A : Option Addr) (cap : Nat),e = .returned (.slice A l.length cap)∧Ow w' w.heap.size 79 4 (.slice A l.length cap) (l.map Gain.cells)∧Below w.heap.size w w'
def Apt (A : Option Addr) (n c X : Nat) : Prop:=∀ k,(Value.slice A n c).ownBlock = some k → k ≠ X
theorem Apt.new {A : Option Addr} {n c X g cap m : Nat} {x : World} (h : Apt A n c X) (hat : (Value.slice A n c).ownBlock = some g ∨ g = x.heap.size) (hX : X < x.heap.size) : Apt (some ⟨g,0,none⟩) m cap X:=by
 intro k hk
 have e : k = g:=by simpa [Value.ownBlock] using hk.symm
 subst e
 rcases hat with h1 | h1
 ·
  exact h k h1
 omega
theorem Ow.off {w : World} {B size X i : Nat} {e : TypeId} {v u : Value} {rows : List (List Value)} (h : Ow w B e size v rows) (hX : ∀ k,v.ownBlock = some k → k ≠ X) : Ow (w.setCell ⟨X,i,none⟩ u) B e size v rows :=
 h.grown (zqg (World.grownBy.refl w (some X)) i u) (by
  cases hv : v.ownBlock with
  | none => exact .inl rfl
  | some k => exact .inr (fun e9 => hX k hv (Option.some.inj e9)))
theorem Apt.some {A : Option Addr} {n c X : Nat} (h : Apt A n c X) : Option.some X ≠ (Value.slice A n c).ownBlock:=fun e => h X e.symm rfl
set_option maxRecDepth 100000 in
set_option maxHeartbeats 4000000 in
theorem s_l22Add (l : List Gain) (h : Htlc) (good : Bool) (A0 : Option Addr) (c0 : Nat) (w : World) (hl : l.length ≤ 1048576) (ha : (0 ≤ h.AmtOut∧h.AmtOut ≤ 1125899906842624)∧(0 ≤ h.AmtIn∧h.AmtIn ≤ 1125899906842624)) (hr : Rd w w.heap.size 4 A0 (l.map Gain.cells)) :
  Calls Tryz.prog 31 #[.slice A0 l.length c0,.agg #[.int .i64 h.Key,.int .i64 h.In,.int .i64 h.Out,.int .i64 h.AmtIn,.int .i64 h.AmtOut,.bool h.Kept,.int .i64 h.Age],.bool good] w (GsP w (addG l (gainOf h good))):=by
 obtain ⟨i0,hi,hz0,hz1,hz2⟩:=info_parts zho
 have HI0:=hd_ hi
 have HI1:=hd_ hz0
 have HI2:=hd_ hz1
 have HI3:=hd_ hz2
 clear hi hz0 hz1 hz2
 have HR:=hd_ hr
 clear hr
 obtain ⟨⟨x1,x2⟩,x3,x4⟩:=ha
 obtain ⟨G,hG⟩ : ∃ G,gainOf h good = G:=⟨_,rfl⟩
 rw [hG]
 obtain ⟨GB,hGB⟩ : ∃ v,v = w.heap.size + 1:=⟨_,rfl⟩
 have HGE : Hid (w.heap.size ≤ GB):=hd_ (by omega)
 cases good
 all_goals
  have HG:=hd_ hG.symm
  clear hG
  go_enter Tryz.func31,Tryz.ntmps31
  go_wp2_with fail
  rw [← hGB]
  go_loopw [8,9,27] (fun vo vd i wr => ∃ (k : Nat) (d : Bool) (o : List Gain) (A : Option Addr) (c : Nat),k ≤ l.length∧i = .int .i64 k∧vd = .bool d∧vo = .slice A o.length c∧o.length ≤ 2 * k∧Hid ((l.take k).foldl (addStep G) (false,[]) = (d,o))∧Hid (Apt A o.length c GB)∧Hid (Ow wr w.heap.size 79 4 (.slice A o.length c) (o.map Gain.cells))∧Hid (Hx wr GB (qaiiii G.Ch G.Fees G.Count G.Failed) 79)∧Hid (Below w.heap.size w wr)) (fun _ _ i _ => l.length - (intOf i).toNat)
  case atStart =>
   refine ⟨0,false,[],_,0,Nat.zero_le _,rfl,rfl,rfl,Nat.le_refl _,hd_ rfl,hd_ ?_,hd_ (Ow.empty_ (by rw [hGB];simp) (by omega)),hd_ ?_,hd_ (bl_)⟩
   ·
    intro k9 e9
    have : k9 = GB + 1:=by simpa [Value.ownBlock] using e9.symm
    omega
   rw [HG.out,hGB]
   unfold gainOf
   first | rw [if_pos rfl] | rw [if_neg (by decide)]
   dsimp only
   exact hp_
  case round =>
   clear hGB
   obtain ⟨k,d,o,A,c,hk,rfl,rfl,rfl,hol,HF,HA,OS_wr,HK_wr,HG_wr⟩:=hrel
   have hgz:=HG_wr.out.size
   by_cases hlt : k < l.length
   rotate_left
   ·
    obtain rfl : k = l.length:=by omega
    have hf:=HF.out
    rw [List.take_length] at hf
    have HF2 : Hid (addG l G = addEnd G (d,o)):=hd_ (by unfold addG;rw [hf])
    clear hf HF
    cases d
    rotate_left
    ·
     have HZ : Hid (addG l G = o):=hd_ (by rw [HF2.out];unfold addEnd;rw [if_pos rfl])
     go_wp2_with fail
     go_ret
     rw [HZ.out]
     exact ⟨_,_,rfl,OS_wr.out,HG_wr.out⟩
    obtain ⟨K,Kf,Kz⟩:=bc4_ HK_wr
    go_wp2_with (at_builtin;refine Stop.go ?_)
    refine Stop.on ?_
    refine nm_ ?_
    intro w151 hw
    have HG151 : Hid (Below w.heap.size w w151):=hd_ (by rw [hw];exact (HG_wr.out).alloc (by have:=HG_wr.out.size;first | omega | (simp;omega)) _)
    have HK151 : Hid (Hx w151 GB (qaiiii G.Ch G.Fees G.Count G.Failed) 79):=hd_ (by rw [hw];exact zqd (by have:=(gz_ HK_wr).1;first | omega | (simp;omega)) (HK_wr.out))
    have OS151 : Hid (Ow w151 w.heap.size 79 4 (.slice A o.length c) (o.map Gain.cells)):=hd_ (by rw [hw];exact (OS_wr.out).alloc _)
    have HX : Hid (w151.heap[wr.heap.size]? = some (.cells #[.int .i64 G.Ch,.int .i64 G.Fees,.int .i64 G.Count,.int .i64 G.Failed] 79 (0,0))):=hd_ (by rw [hw];exact zqi (by first | rfl | (simp;done)))
    have hbz:=HG151.out.size
    clear hw
    clear K Kf Kz
    refine zqz rfl _ _ _ rfl w.heap.size 79 i0 _ 4 32 Tryz.underlying24 HI0 HI1 HI2 HI3 rfl (by decide) (.slice A o.length c) _ rfl OS151.out wr.heap.size 1 [.int .i64 G.Ch,.int .i64 G.Fees,.int .i64 G.Count,.int .i64 G.Failed] 79 (by rfl) HX rfl (by simp [Value.oneCell']) (by rw [List.length_map];omega) (by decide) hbz ?_
    intro ga capa xa how hgr hat hlt9
    have HG_xa:=hd_ (HG151.out.grown hgr hbz (fun k9 e9 => (OS151.out.block k9 e9).1))
    have HAKa:=hd_ (Apt.new (m:=o.length + 1) (cap:=capa) HA hat (gz2 HK151))
    have HK_xa:=hd_ (zqe hgr (Apt.some HA) HK151)
    rw [List.length_map] at how ⊢
    obtain ⟨oa,ho⟩ : ∃ l9,l9 = o ++ [(⟨G.Ch,G.Fees,G.Count,G.Failed⟩ : Gain)]:=⟨_,rfl⟩
    have hoL : o.length + 1 = oa.length:=by rw [ho,List.length_append];rfl
    rw [hoL] at how ⊢
    have OS_xa : Hid (Ow xa w.heap.size 79 4 (.slice (some ⟨ga,0,none⟩) oa.length capa) (oa.map Gain.cells)):=hd_ (by rw [ho,List.map_append,← ho];exact how)
    have HOa:=hd_ ho
    have HLa:=hd_ hoL
    rw [hoL] at HAKa
    clear how hgr hat hlt9 ho hoL HX hbz OS151 HG151 HK151
    obtain ⟨K,Kf,Kz⟩:=bc4_ HK_xa
    have HZ : Hid (addG l G = oa):=hd_ (by rw [HF2.out];unfold addEnd;rw [if_neg (by simp)];exact HOa.out.symm)
    go_wp2_with fail
    go_ret
    rw [HZ.out]
    exact ⟨_,_,rfl,OS_xa.out,HG_xa.out⟩
   have HASK : Hid (∀ k,(Value.slice A o.length c).ownBlock = some k → k ≠ GB):=HA
   obtain ⟨b,off,rfl,hbB,c0',c1,c2,c3⟩:=Gain.rd (HR.out.below HG_wr) hlt
   have Fx:=hd_ (zqq l (addStep G) (false,[]) hlt)
   obtain ⟨x,hx⟩ : ∃ x,l[k] = x:=⟨_,rfl⟩
   rw [hx] at c0' c1 c2 c3 Fx
   have HXE:=hd_ hx
   clear hx
   obtain ⟨K,Kf,Kz⟩:=bc4_ HK_wr
   go_upto_region 11 with fail
   clear c0' c1 c2 c3
   refine nm_ ?_
   intro w51 hw
   have HG51 : Hid (Below w.heap.size w w51):=hd_ (by rw [hw];exact (HG_wr.out).alloc (by have:=HG_wr.out.size;first | omega | (simp;omega)) _)
   have HK51 : Hid (Hx w51 GB (qaiiii G.Ch G.Fees G.Count G.Failed) 79):=hd_ (by rw [hw];exact zqd (by have:=(gz_ HK_wr).1;first | omega | (simp;omega)) (HK_wr.out))
   have OS51 : Hid (Ow w51 w.heap.size 79 4 (.slice A o.length c) (o.map Gain.cells)):=hd_ (by rw [hw];exact (OS_wr.out).alloc _)
   obtain ⟨EB,h9E⟩ : ∃ v,v = wr.heap.size:=⟨_,rfl⟩
   have HE51 : Hid (Hx w51 EB (qaiiii x.Ch x.Fees x.Count x.Failed) 79):=hd_ (by rw [hw,h9E];exact zqi (by first | rfl | (simp;done)))
   have HLE : Hid (w.heap.size ≤ EB):=hd_ (by have:=HG_wr.out.size;omega)
   have HASE : Hid (∀ k,(.slice A o.length c : Value).ownBlock = some k → k ≠ EB):=hd_ (fun k9 e9 => by have:=(OS_wr.out.block k9 e9).2;omega)
   try rw [← h9E]
   have HNEK : Hid (EB ≠ GB):=hd_ (by have:=(gz_ HK_wr).1;omega)
   clear hw h9E
   clear K Kf Kz
   obtain ⟨K,Kf,Kz⟩:=bc4_ HK51
   obtain ⟨E,Ef,Ez⟩:=bc4_ HE51
   cases t1 : (x.Ch == G.Ch)
   rotate_left
   ·
    have T1:=hd_ (show x.Ch = G.Ch by simpa using t1)
    go_upto_region 15 with fail
    refine nm_ ?_
    intro w52 hw
    have HG52 : Hid (Below w.heap.size w w52):=hd_ (by rw [hw];exact (((HG51.out).setCell HLE.out _).setCell HLE.out _).setCell HLE.out _)
    have HK52 : Hid (Hx w52 GB (qaiiii G.Ch G.Fees G.Count G.Failed) 79):=hd_ (by rw [hw];exact zqb (fun e9 => HNEK.out e9.symm) (zqb (fun e9 => HNEK.out e9.symm) (zqb (fun e9 => HNEK.out e9.symm) (HK51.out))))
    have HE52 : Hid (Hx w52 EB (qaiiii x.Ch (wrap64 (x.Fees + G.Fees)) (wrap64 (x.Count + G.Count)) (wrap64 (x.Failed + G.Failed))) 79):=hd_ (by rw [hw];exact zqa (zqa (zqa (HE51.out))))
    have OS52 : Hid (Ow w52 w.heap.size 79 4 (.slice A o.length c) (o.map Gain.cells)):=hd_ (by rw [hw];exact (((OS51.out).off HASE).off HASE).off HASE)
    clear hw
    clear K E Kf Ef Kz Ez
    obtain ⟨K,Kf,Kz⟩:=bc4_ HK52
    obtain ⟨E,Ef,Ez⟩:=bc4_ HE52
    go_wp2_with (at_builtin;refine Stop.go ?_)
    refine Stop.on ?_
    refine nm_ ?_
    intro w53 hw
    have HG53 : Hid (Below w.heap.size w w53):=hd_ (by rw [hw];exact (HG52.out).alloc (by have:=HG52.out.size;first | omega | (simp;omega)) _)
    have HK53 : Hid (Hx w53 GB (qaiiii G.Ch G.Fees G.Count G.Failed) 79):=hd_ (by rw [hw];exact zqd (by have:=(gz_ HK52).1;first | omega | (simp;omega)) (HK52.out))
    have HE53 : Hid (Hx w53 EB (qaiiii x.Ch (wrap64 (x.Fees + G.Fees)) (wrap64 (x.Count + G.Count)) (wrap64 (x.Failed + G.Failed))) 79):=hd_ (by rw [hw];exact zqd (by have:=(gz_ HE52).1;first | omega | (simp;omega)) (HE52.out))
    have OS53 : Hid (Ow w53 w.heap.size 79 4 (.slice A o.length c) (o.map Gain.cells)):=hd_ (by rw [hw];exact (OS52.out).alloc _)
    have HX : Hid (w53.heap[w52.heap.size]? = some (.cells #[.int .i64 x.Ch,.int .i64 (wrap64 (x.Fees + G.Fees)),.int .i64 (wrap64 (x.Count + G.Count)),.int .i64 (wrap64 (x.Failed + G.Failed))] 79 (0,0))):=hd_ (by rw [hw];exact zqi (by first | rfl | (simp;done)))
    have hbz:=HG53.out.size
    clear hw
    clear K E Kf Ef Kz Ez
    refine zqz rfl _ _ _ rfl w.heap.size 79 i0 _ 4 32 Tryz.underlying24 HI0 HI1 HI2 HI3 rfl (by decide) (.slice A o.length c) _ rfl OS53.out w52.heap.size 1 [.int .i64 x.Ch,.int .i64 (wrap64 (x.Fees + G.Fees)),.int .i64 (wrap64 (x.Count + G.Count)),.int .i64 (wrap64 (x.Failed + G.Failed))] 79 (by rfl) HX rfl (by simp [Value.oneCell']) (by rw [List.length_map];omega) (by decide) hbz ?_
    intro ga capa xa how hgr hat hlt9
    have HG_xa:=hd_ (HG53.out.grown hgr hbz (fun k9 e9 => (OS53.out.block k9 e9).1))
    have HAKa:=hd_ (Apt.new (m:=o.length + 1) (cap:=capa) HASK hat (gz2 HK53))
    have HK_xa:=hd_ (zqe hgr (Apt.some HASK) HK53)
    have HAEa:=hd_ (Apt.new (m:=o.length + 1) (cap:=capa) HASE hat (gz2 HE53))
    have HE_xa:=hd_ (zqe hgr (Apt.some HASE) HE53)
    rw [List.length_map] at how ⊢
    obtain ⟨oa,ho⟩ : ∃ l9,l9 = o ++ [(⟨x.Ch,(wrap64 (x.Fees + G.Fees)),(wrap64 (x.Count + G.Count)),(wrap64 (x.Failed + G.Failed))⟩ : Gain)]:=⟨_,rfl⟩
    have hoL : o.length + 1 = oa.length:=by rw [ho,List.length_append];rfl
    rw [hoL] at how ⊢
    have OS_xa : Hid (Ow xa w.heap.size 79 4 (.slice (some ⟨ga,0,none⟩) oa.length capa) (oa.map Gain.cells)):=hd_ (by rw [ho,List.map_append,← ho];exact how)
    have HOa:=hd_ ho
    have HLa:=hd_ hoL
    rw [hoL] at HAKa
    rw [hoL] at HAEa
    clear how hgr hat hlt9 ho hoL HX hbz OS53 HG53 HK53 HE53
    obtain ⟨K,Kf,Kz⟩:=bc4_ HK_xa
    obtain ⟨E,Ef,Ez⟩:=bc4_ HE_xa
    cases d
    ·
     have FS:=hd_ (show addStep G (false,o) x = (true,oa) by unfold addStep;rw [if_pos T1.out,HOa.out];rfl)
     go_wp2_with fail
     go_roundw
     case rel => exact ⟨k + 1,true,oa,some ⟨ga,0,none⟩,capa,by omega,by go_num,rfl,rfl,by have:=HLa.out;omega,hd_ (by rw [Fx.out,HF.out,FS.out]),HAKa,OS_xa,HK_xa,HG_xa⟩
     case measure => simp [intOf];omega
    have FS:=hd_ (show addStep G (true,o) x = (true,oa) by unfold addStep;rw [if_pos T1.out,HOa.out];rfl)
    go_wp2_with fail
    go_roundw
    case rel => exact ⟨k + 1,true,oa,some ⟨ga,0,none⟩,capa,by omega,by go_num,rfl,rfl,by have:=HLa.out;omega,hd_ (by rw [Fx.out,HF.out,FS.out]),HAKa,OS_xa,HK_xa,HG_xa⟩
    case measure => simp [intOf];omega
   have T1:=hd_ (show ¬ x.Ch = G.Ch by simpa using t1)
   cases d
   rotate_left
   ·
    go_wp2_with (at_builtin;refine Stop.go ?_)
    refine Stop.on ?_
    refine nm_ ?_
    intro w52 hw
    have HG52 : Hid (Below w.heap.size w w52):=hd_ (by rw [hw];exact (HG51.out).alloc (by have:=HG51.out.size;first | omega | (simp;omega)) _)
    have HK52 : Hid (Hx w52 GB (qaiiii G.Ch G.Fees G.Count G.Failed) 79):=hd_ (by rw [hw];exact zqd (by have:=(gz_ HK51).1;first | omega | (simp;omega)) (HK51.out))
    have HE52 : Hid (Hx w52 EB (qaiiii x.Ch x.Fees x.Count x.Failed) 79):=hd_ (by rw [hw];exact zqd (by have:=(gz_ HE51).1;first | omega | (simp;omega)) (HE51.out))
    have OS52 : Hid (Ow w52 w.heap.size 79 4 (.slice A o.length c) (o.map Gain.cells)):=hd_ (by rw [hw];exact (OS51.out).alloc _)
    have HX : Hid (w52.heap[w51.heap.size]? = some (.cells #[.int .i64 x.Ch,.int .i64 x.Fees,.int .i64 x.Count,.int .i64 x.Failed] 79 (0,0))):=hd_ (by rw [hw];exact zqi (by first | rfl | (simp;done)))
    have hbz:=HG52.out.size
    clear hw
    clear K E Kf Ef Kz Ez
    refine zqz rfl _ _ _ rfl w.heap.size 79 i0 _ 4 32 Tryz.underlying24 HI0 HI1 HI2 HI3 rfl (by decide) (.slice A o.length c) _ rfl OS52.out w51.heap.size 1 [.int .i64 x.Ch,.int .i64 x.Fees,.int .i64 x.Count,.int .i64 x.Failed] 79 (by rfl) HX rfl (by simp [Value.oneCell']) (by rw [List.length_map];omega) (by decide) hbz ?_
    intro ga capa xa how hgr hat hlt9
    have HG_xa:=hd_ (HG52.out.grown hgr hbz (fun k9 e9 => (OS52.out.block k9 e9).1))
    have HAKa:=hd_ (Apt.new (m:=o.length + 1) (cap:=capa) HASK hat (gz2 HK52))
    have HK_xa:=hd_ (zqe hgr (Apt.some HASK) HK52)
    have HAEa:=hd_ (Apt.new (m:=o.length + 1) (cap:=capa) HASE hat (gz2 HE52))
    have HE_xa:=hd_ (zqe hgr (Apt.some HASE) HE52)
    rw [List.length_map] at how ⊢
    obtain ⟨oa,ho⟩ : ∃ l9,l9 = o ++ [(⟨x.Ch,x.Fees,x.Count,x.Failed⟩ : Gain)]:=⟨_,rfl⟩
    have hoL : o.length + 1 = oa.length:=by rw [ho,List.length_append];rfl
    rw [hoL] at how ⊢
    have OS_xa : Hid (Ow xa w.heap.size 79 4 (.slice (some ⟨ga,0,none⟩) oa.length capa) (oa.map Gain.cells)):=hd_ (by rw [ho,List.map_append,← ho];exact how)
    have HOa:=hd_ ho
    have HLa:=hd_ hoL
    rw [hoL] at HAKa
    rw [hoL] at HAEa
    clear how hgr hat hlt9 ho hoL HX hbz OS52 HG52 HK52 HE52
    obtain ⟨K,Kf,Kz⟩:=bc4_ HK_xa
    obtain ⟨E,Ef,Ez⟩:=bc4_ HE_xa
    have FS:=hd_ (show addStep G (true,o) x = (true,oa) by unfold addStep;rw [if_neg T1.out,if_neg (fun h9 => by cases h9.1),HOa.out])
    go_wp2_with fail
    go_roundw
    case rel => exact ⟨k + 1,true,oa,some ⟨ga,0,none⟩,capa,by omega,by go_num,rfl,rfl,by have:=HLa.out;omega,hd_ (by rw [Fx.out,HF.out,FS.out]),HAKa,OS_xa,HK_xa,HG_xa⟩
    case measure => simp [intOf];omega
   cases t2 : decide (G.Ch < x.Ch)
   ·
    have T2:=hd_ (of_decide_eq_false t2)
    go_wp2_with (at_builtin;refine Stop.go ?_)
    refine Stop.on ?_
    refine nm_ ?_
    intro w52 hw
    have HG52 : Hid (Below w.heap.size w w52):=hd_ (by rw [hw];exact (HG51.out).alloc (by have:=HG51.out.size;first | omega | (simp;omega)) _)
    have HK52 : Hid (Hx w52 GB (qaiiii G.Ch G.Fees G.Count G.Failed) 79):=hd_ (by rw [hw];exact zqd (by have:=(gz_ HK51).1;first | omega | (simp;omega)) (HK51.out))
    have HE52 : Hid (Hx w52 EB (qaiiii x.Ch x.Fees x.Count x.Failed) 79):=hd_ (by rw [hw];exact zqd (by have:=(gz_ HE51).1;first | omega | (simp;omega)) (HE51.out))
    have OS52 : Hid (Ow w52 w.heap.size 79 4 (.slice A o.length c) (o.map Gain.cells)):=hd_ (by rw [hw];exact (OS51.out).alloc _)
    have HX : Hid (w52.heap[w51.heap.size]? = some (.cells #[.int .i64 x.Ch,.int .i64 x.Fees,.int .i64 x.Count,.int .i64 x.Failed] 79 (0,0))):=hd_ (by rw [hw];exact zqi (by first | rfl | (simp;done)))
    have hbz:=HG52.out.size
    clear hw
    clear K E Kf Ef Kz Ez
    refine zqz rfl _ _ _ rfl w.heap.size 79 i0 _ 4 32 Tryz.underlying24 HI0 HI1 HI2 HI3 rfl (by decide) (.slice A o.length c) _ rfl OS52.out w51.heap.size 1 [.int .i64 x.Ch,.int .i64 x.Fees,.int .i64 x.Count,.int .i64 x.Failed] 79 (by rfl) HX rfl (by simp [Value.oneCell']) (by rw [List.length_map];omega) (by decide) hbz ?_
    intro ga capa xa how hgr hat hlt9
    have HG_xa:=hd_ (HG52.out.grown hgr hbz (fun k9 e9 => (OS52.out.block k9 e9).1))
    have HAKa:=hd_ (Apt.new (m:=o.length + 1) (cap:=capa) HASK hat (gz2 HK52))
    have HK_xa:=hd_ (zqe hgr (Apt.some HASK) HK52)
    have HAEa:=hd_ (Apt.new (m:=o.length + 1) (cap:=capa) HASE hat (gz2 HE52))
    have HE_xa:=hd_ (zqe hgr (Apt.some HASE) HE52)
    rw [List.length_map] at how ⊢
    obtain ⟨oa,ho⟩ : ∃ l9,l9 = o ++ [(⟨x.Ch,x.Fees,x.Count,x.Failed⟩ : Gain)]:=⟨_,rfl⟩
    have hoL : o.length + 1 = oa.length:=by rw [ho,List.length_append];rfl
    rw [hoL] at how ⊢
    have OS_xa : Hid (Ow xa w.heap.size 79 4 (.slice (some ⟨ga,0,none⟩) oa.length capa) (oa.map Gain.cells)):=hd_ (by rw [ho,List.map_append,← ho];exact how)
    have HOa:=hd_ ho
    have HLa:=hd_ hoL
    rw [hoL] at HAKa
    rw [hoL] at HAEa
    clear how hgr hat hlt9 ho hoL HX hbz OS52 HG52 HK52 HE52
    obtain ⟨K,Kf,Kz⟩:=bc4_ HK_xa
    obtain ⟨E,Ef,Ez⟩:=bc4_ HE_xa
    have FS:=hd_ (show addStep G (false,o) x = (false,oa) by unfold addStep;rw [if_neg T1.out,if_neg (fun h9 => by have:=T2.out;have:=h9.2;omega),HOa.out])
    go_wp2_with fail
    go_roundw
    case rel => exact ⟨k + 1,false,oa,some ⟨ga,0,none⟩,capa,by omega,by go_num,rfl,rfl,by have:=HLa.out;omega,hd_ (by rw [Fx.out,HF.out,FS.out]),HAKa,OS_xa,HK_xa,HG_xa⟩
    case measure => simp [intOf];omega
   have T2:=hd_ (of_decide_eq_true t2)
   go_wp2_with (at_builtin;refine Stop.go ?_)
   refine Stop.on ?_
   refine nm_ ?_
   intro w52 hw
   have HG52 : Hid (Below w.heap.size w w52):=hd_ (by rw [hw];exact (HG51.out).alloc (by have:=HG51.out.size;first | omega | (simp;omega)) _)
   have HK52 : Hid (Hx w52 GB (qaiiii G.Ch G.Fees G.Count G.Failed) 79):=hd_ (by rw [hw];exact zqd (by have:=(gz_ HK51).1;first | omega | (simp;omega)) (HK51.out))
   have HE52 : Hid (Hx w52 EB (qaiiii x.Ch x.Fees x.Count x.Failed) 79):=hd_ (by rw [hw];exact zqd (by have:=(gz_ HE51).1;first | omega | (simp;omega)) (HE51.out))
   have OS52 : Hid (Ow w52 w.heap.size 79 4 (.slice A o.length c) (o.map Gain.cells)):=hd_ (by rw [hw];exact (OS51.out).alloc _)
   have HX : Hid (w52.heap[w51.heap.size]? = some (.cells #[.int .i64 G.Ch,.int .i64 G.Fees,.int .i64 G.Count,.int .i64 G.Failed] 79 (0,0))):=hd_ (by rw [hw];exact zqi (by first | rfl | (simp;done)))
   have hbz:=HG52.out.size
   clear hw
   clear K E Kf Ef Kz Ez
   refine zqz rfl _ _ _ rfl w.heap.size 79 i0 _ 4 32 Tryz.underlying24 HI0 HI1 HI2 HI3 rfl (by decide) (.slice A o.length c) _ rfl OS52.out w51.heap.size 1 [.int .i64 G.Ch,.int .i64 G.Fees,.int .i64 G.Count,.int .i64 G.Failed] 79 (by rfl) HX rfl (by simp [Value.oneCell']) (by rw [List.length_map];omega) (by decide) hbz ?_
   intro ga capa xa how hgr hat hlt9
   have HG_xa:=hd_ (HG52.out.grown hgr hbz (fun k9 e9 => (OS52.out.block k9 e9).1))
   have HAKa:=hd_ (Apt.new (m:=o.length + 1) (cap:=capa) HASK hat (gz2 HK52))
   have HK_xa:=hd_ (zqe hgr (Apt.some HASK) HK52)
   have HAEa:=hd_ (Apt.new (m:=o.length + 1) (cap:=capa) HASE hat (gz2 HE52))
   have HE_xa:=hd_ (zqe hgr (Apt.some HASE) HE52)
   rw [List.length_map] at how ⊢
   obtain ⟨oa,ho⟩ : ∃ l9,l9 = o ++ [(⟨G.Ch,G.Fees,G.Count,G.Failed⟩ : Gain)]:=⟨_,rfl⟩
   have hoL : o.length + 1 = oa.length:=by rw [ho,List.length_append];rfl
   rw [hoL] at how ⊢
   have OS_xa : Hid (Ow xa w.heap.size 79 4 (.slice (some ⟨ga,0,none⟩) oa.length capa) (oa.map Gain.cells)):=hd_ (by rw [ho,List.map_append,← ho];exact how)
   have HOa:=hd_ ho
   have HLa:=hd_ hoL
   rw [hoL] at HAKa
   rw [hoL] at HAEa
   clear how hgr hat hlt9 ho hoL HX hbz OS52 HG52 HK52 HE52
   obtain ⟨K,Kf,Kz⟩:=bc4_ HK_xa
   obtain ⟨E,Ef,Ez⟩:=bc4_ HE_xa
   go_wp2_with (at_builtin;refine Stop.go ?_)
   refine Stop.on ?_
   refine nm_ ?_
   intro w53 hw
   have HG53 : Hid (Below w.heap.size w w53):=hd_ (by rw [hw];exact (HG_xa.out).alloc (by have:=HG_xa.out.size;first | omega | (simp;omega)) _)
   have HK53 : Hid (Hx w53 GB (qaiiii G.Ch G.Fees G.Count G.Failed) 79):=hd_ (by rw [hw];exact zqd (by have:=(gz_ HK_xa).1;first | omega | (simp;omega)) (HK_xa.out))
   have HE53 : Hid (Hx w53 EB (qaiiii x.Ch x.Fees x.Count x.Failed) 79):=hd_ (by rw [hw];exact zqd (by have:=(gz_ HE_xa).1;first | omega | (simp;omega)) (HE_xa.out))
   have OS53 : Hid (Ow w53 w.heap.size 79 4 (.slice (some ⟨ga,0,none⟩) oa.length capa) (oa.map Gain.cells)):=hd_ (by rw [hw];exact (OS_xa.out).alloc _)
   have HX : Hid (w53.heap[xa.heap.size]? = some (.cells #[.int .i64 x.Ch,.int .i64 x.Fees,.int .i64 x.Count,.int .i64 x.Failed] 79 (0,0))):=hd_ (by rw [hw];exact zqi (by first | rfl | (simp;done)))
   have hbz:=HG53.out.size
   clear hw
   clear K E Kf Ef Kz Ez
   refine zqz rfl _ _ _ rfl w.heap.size 79 i0 _ 4 32 Tryz.underlying24 HI0 HI1 HI2 HI3 rfl (by decide) (.slice (some ⟨ga,0,none⟩) oa.length capa) _ rfl OS53.out xa.heap.size 1 [.int .i64 x.Ch,.int .i64 x.Fees,.int .i64 x.Count,.int .i64 x.Failed] 79 (by rfl) HX rfl (by simp [Value.oneCell']) (by rw [List.length_map];have:=HLa.out;omega) (by decide) hbz ?_
   intro gb capb xb how hgr hat hlt9
   have HG_xb:=hd_ (HG53.out.grown hgr hbz (fun k9 e9 => (OS53.out.block k9 e9).1))
   have HAKb:=hd_ (Apt.new (m:=oa.length + 1) (cap:=capb) HAKa hat (gz2 HK53))
   have HK_xb:=hd_ (zqe hgr (Apt.some HAKa) HK53)
   have HAEb:=hd_ (Apt.new (m:=oa.length + 1) (cap:=capb) HAEa hat (gz2 HE53))
   have HE_xb:=hd_ (zqe hgr (Apt.some HAEa) HE53)
   rw [List.length_map] at how ⊢
   obtain ⟨ob,ho⟩ : ∃ l9,l9 = oa ++ [(⟨x.Ch,x.Fees,x.Count,x.Failed⟩ : Gain)]:=⟨_,rfl⟩
   have hoL : oa.length + 1 = ob.length:=by rw [ho,List.length_append];rfl
   rw [hoL] at how ⊢
   have OS_xb : Hid (Ow xb w.heap.size 79 4 (.slice (some ⟨gb,0,none⟩) ob.length capb) (ob.map Gain.cells)):=hd_ (by rw [ho,List.map_append,← ho];exact how)
   have HOb:=hd_ ho
   have HLb:=hd_ hoL
   rw [hoL] at HAKb
   rw [hoL] at HAEb
   clear how hgr hat hlt9 ho hoL HX hbz OS53 HG53 HK53 HE53
   obtain ⟨K,Kf,Kz⟩:=bc4_ HK_xb
   obtain ⟨E,Ef,Ez⟩:=bc4_ HE_xb
   have FS:=hd_ (show addStep G (false,o) x = (true,ob) by unfold addStep;rw [if_neg T1.out,if_pos ⟨rfl,by have:=T2.out;omega⟩,HOb.out,HOa.out])
   go_wp2_with fail
   go_roundw
   case rel => exact ⟨k + 1,true,ob,some ⟨gb,0,none⟩,capb,by omega,by go_num,rfl,rfl,by have:=HLa.out;have:=HLb.out;omega,hd_ (by rw [Fx.out,HF.out,FS.out]),HAKb,OS_xb,HK_xb,HG_xb⟩
   case measure => simp [intOf];omega
end Go.Proofs.YtdbmkfmenfcbiaaGreat

/- Draws: events. -/
import Derived.Test.YtdbmkfmenfcbiaaGreatRows
import Derived.Test.YtdbmkfmenfcbiaaGreatNM2
import Derived.Test.YtdbmkfmenfcbiaaGreatNDrawEv
namespace Go.Proofs.YtdbmkfmenfcbiaaGreat
open Go.RowKit Go.Deep
theorem Ow.lit_ {w : World} {B size g : Nat} {e : TypeId} {rows : List (List Value)} {cs : Array Value} (hu : ∀ r ∈ rows,r.length = size) (hcs : cs = rows.flatten.toArray) (hm : rows.length ≤ maxLen) (hg : g = w.heap.size) (hB : B ≤ g) : Ow (w.alloc (.cells cs e)) B e size (.slice (some ⟨g,0,none⟩) rows.length rows.length) rows:=by
 subst hcs hg
 exact ⟨hu,by simpa using World.ownsRow_lit w rows.flatten.toArray rows.length hB hm (by simpa using zxt rows size hu)⟩
theorem Ow.apart {w : World} {B size X i : Nat} {e : TypeId} {v u : Value} {rows : List (List Value)} (h : Ow w B e size v rows) (hX : ∀ k,v.ownBlock = some k → k ≠ X) : Ow (w.setCell ⟨X,i,none⟩ u) B e size v rows :=
 h.grown (zqg (World.grownBy.refl w (some X)) i u) (by
  cases hv : v.ownBlock with
  | none => exact .inl rfl
  | some k => exact .inr (zxj (hX k hv)))
theorem zyn (l : List Event) : ∀ r ∈ l.map Event.cells,r.length = 7:=by
 intro r hr
 obtain ⟨x,_,rfl⟩:=List.mem_map.1 hr
 rfl
theorem zkx {w a b : World} {g n : Nat} {e : TypeId} {v : Value} {rows : List (List Value)} (h : w.grownBy a (some g)) (how : Ow a w.heap.size e n v rows) (hg : a.grownBy b v.ownBlock) : w.grownBy b (some g) :=
 ⟨hg.os.trans h.os,hg.tape.trans h.tape,hg.output.trans h.output,Nat.le_trans h.size hg.size,fun k hk hne => (hg.block k (Nat.lt_of_lt_of_le hk h.size) (fun e9 => by have:=(how.block k e9.symm).1;omega)).trans (h.block k hk hne)⟩
theorem zyv : (Tryz.prog.info? 64).map (fun i => (i.zero,i.size,i.bytes)) = some (some (.agg #[.int .i64 0,.int .i64 0,.int .i64 0,.int .i64 0,.int .i64 0,.int .i64 0,.bool false]),7,56):=by kernel_rfl
def DrewEs (g : Nat) (m : Nat) (w : World) (e : Ending) (w' : World) : Prop:=∃ (es : List Event) (A : Option Addr) (cap : Nat),e = .returned (.slice A es.length cap)∧es.length ≤ m∧Ow w' w.heap.size 64 7 (.slice A es.length cap) (es.map Event.cells)∧Crs w' g∧w.grownBy w' (some g)
set_option maxRecDepth 100000 in
set_option maxHeartbeats 4000000 in
theorem s_l07Events (g : Nat) (most : Int) (w : World) (hc : Crs w g) (h1 : 0 ≤ most) (h2 : most ≤ 100) :
  Calls Tryz.prog 80 #[.pointer (some ⟨g,0,none⟩),.int .i64 most] w (DrewEs g 105 w):=by
 obtain ⟨i0,hi,hz0,hz1,hz2⟩:=info_parts zyv
 have HI0:=hd_ hi
 have HI1:=hd_ hz0
 have HI2:=hd_ hz1
 have HI3:=hd_ hz2
 clear hi hz0 hz1 hz2
 have hgw:=hc.lt
 have HC_w:=hd_ hc
 have HG_w:=hd_ (World.grownBy.refl w (some g))
 clear hc
 go_enter Tryz.func80,Tryz.ntmps80
 go_wp2_with fail
 refine (zxd g 3 _ HC_w (by first | decide | omega) (by first | decide | omega)).mono ?_
 rintro e' w1 ⟨x,x1,x2,rfl,hcn,hg⟩
 have HC1:=hd_ hcn
 have HG1:=hd_ (zqt HG_w hg)
 clear hcn hg
 go_wp2_with fail
 refine (zxd g 20 _ HC1 (by first | decide | omega) (by first | decide | omega)).mono ?_
 rintro e' w2 ⟨y,y1,y2,rfl,hcn,hg⟩
 have HC2:=hd_ hcn
 have HG2:=hd_ (zqt HG1 hg)
 clear hcn hg
 go_wp2_with fail
 refine (zxd g 20000 _ HC2 (by first | decide | omega) (by first | decide | omega)).mono ?_
 rintro e' w3 ⟨z,z1,z2,rfl,hcn,hg⟩
 have HC3:=hd_ hcn
 have HG3:=hd_ (zqt HG2 hg)
 clear hcn hg
 obtain ⟨es,hes⟩ : ∃ es : List Event,es = [⟨1,0,0,0,100000,0,false⟩,⟨2,0,1,0,20000,10000,false⟩,⟨2,0,2,0,10000,20000,false⟩,⟨2,0,3,0,15000,15000,false⟩,⟨4,0,1 + x,0,y,z,false⟩]:=⟨_,rfl⟩
 go_wp2_with fail
 refine zju (fun w4 hw => ?_)
 have HC4 : Hid (Crs w4 g):=hd_ (by rw [hw];exact (HC3.out).alloc _)
 have HG4 : Hid (w.grownBy w4 (some g)):=hd_ (by rw [hw];exact zxp (HG3.out) _)
 have hel : es.length = 5:=by rw [hes];rfl
 have OS4 : Hid (Ow w4 w.heap.size 64 7 (.slice (some ⟨w3.heap.size,0,none⟩) 5 5) (es.map Event.cells)):=hd_ (by have h9:=Ow.lit_ (w:=w3) (B:=w.heap.size) (g:=w3.heap.size) (e:=64) (rows:=es.map Event.cells) (zyn es) rfl (by rw [List.length_map,hel];decide) rfl HG3.out.size;rw [List.length_map,hel] at h9;rw [hw];subst hes;exact h9)
 obtain ⟨G,hG⟩ : ∃ v,v = w3.heap.size:=⟨_,rfl⟩
 rw [← hG] at OS4 ⊢
 have HEL:=hd_ hel
 clear hw hes hel hG
 refine (zxd g 4 _ HC4 (by first | decide | omega) (by first | decide | omega)).mono ?_
 rintro e' w5 ⟨q,q1,q2,rfl,hcn,hg⟩
 have HC5:=hd_ hcn
 have HG5:=hd_ (zqt HG4 hg)
 have OS5:=hd_ (OS4.out.pastL hg hgw)
 clear hcn hg
 clear x1 x2 y1 y2 z1 z2
 cases tq : (q == 0)
 ·
  go_wp2_with fail
  refine (zxd g (most + 1) _ HC5 (by first | decide | omega) (by first | decide | omega)).mono ?_
  rintro e' w6 ⟨m,m1,m2,rfl,hcn,hg⟩
  have HC6:=hd_ hcn
  have HG6:=hd_ (zqt HG5 hg)
  have OS6:=hd_ (OS5.out.pastL hg hgw)
  clear hcn hg
  go_wp2_with fail
  go_loopw [5,6] (fun vl vn wr => ∃ (N : Int) (L : List Event) (A : Option Addr) (cp : Nat),0 ≤ N∧N ≤ 100∧vn = .int .i64 N∧vl = .slice A L.length cp∧(L.length : Int) + N ≤ 105∧Hid (Ow wr w.heap.size 64 7 (.slice A L.length cp) (L.map Event.cells))∧Hid (Crs wr g)∧Hid (w.grownBy wr (some g))) (fun _ vn _ => (intOf vn).toNat)
  case atStart => exact ⟨m,es,some ⟨G,0,none⟩,5,m1,by omega,rfl,by rw [HEL.out],by rw [HEL.out];omega,hd_ (by rw [HEL.out];exact OS6.out),HC6,HG6⟩
  case round =>
   clear OS6 HC6 HG6
   obtain ⟨N,L,A,cp,n1,n2,rfl,rfl,hLN,OS_wr,HC_wr,HG_wr⟩:=hrel
   have hgz:=HG_wr.out.size
   by_cases hlt : 0 < N
   rotate_left
   ·
    obtain rfl : N = 0:=by omega
    go_wp2_with fail
    go_ret
    exact ⟨L,A,cp,rfl,by omega,OS_wr.out,HC_wr.out,HG_wr.out⟩
   go_wp2_with fail
   refine (zsj g _ HC_wr).mono ?_
   rintro e' w51 ⟨ev,rfl,hcn,hg⟩
   have HC51:=hd_ hcn
   have HG51:=hd_ (zqt HG_wr hg)
   have OS51:=hd_ (OS_wr.out.pastL hg hgw)
   clear hcn hg
   go_wp2_with fail
   refine nm_ ?_
   intro w52 hw
   have HC52 : Hid (Crs w52 g):=hd_ (by rw [hw];exact (HC51.out).alloc _)
   have HG52 : Hid (w.grownBy w52 (some g)):=hd_ (by rw [hw];exact zxp (HG51.out) _)
   have OS52 : Hid (Ow w52 w.heap.size 64 7 (.slice A L.length cp) (L.map Event.cells)):=hd_ (by rw [hw];exact (OS51.out).alloc _)
   obtain ⟨EB,h9E⟩ : ∃ v,v = w51.heap.size:=⟨_,rfl⟩
   have HE52 : Hid (Hx w52 EB (evC ev) 64):=hd_ (by rw [hw,h9E];exact zqi (by first | rfl | (simp;done)))
   have HLE : Hid (w.heap.size ≤ EB):=hd_ (by have:=HG51.out.size;omega)
   have HASE : Hid (∀ k,(.slice A L.length cp : Value).ownBlock = some k → k ≠ EB):=hd_ (fun k9 e9 => by have:=(OS51.out.block k9 e9).2;omega)
   try rw [← h9E]
   clear hw h9E
   obtain ⟨E,Ef,Ez⟩:=bc7_ HE52
   refine (zxd g 3 _ HC52 (by first | decide | omega) (by first | decide | omega)).mono ?_
   rintro e' w53 ⟨a,a1,a2,rfl,hcn,hg⟩
   have HC53:=hd_ hcn
   have HG53:=hd_ (zqt HG52 hg)
   have HE53:=hd_ (zqe hg (zxj (by have:=HLE.out;omega)) HE52)
   have OS53:=hd_ (OS52.out.pastL hg hgw)
   clear hcn hg
   clear E Ef Ez
   obtain ⟨E,Ef,Ez⟩:=bc7_ HE53
   cases ta : (a == 0)
   ·
    go_wp2_with (at_builtin;refine Stop.go ?_)
    refine Stop.on ?_
    refine zva (fun w54 hw => ?_)
    have HC54 : Hid (Crs w54 g):=hd_ (by rw [hw];exact (HC53.out).alloc _)
    have HG54 : Hid (w.grownBy w54 (some g)):=hd_ (by rw [hw];exact zxp (HG53.out) _)
    have HE54 : Hid (Hx w54 EB (evC ev) 64):=hd_ (by rw [hw];exact zqd (by have:=(gz_ HE53).1;first | omega | (simp;omega)) (HE53.out))
    have OS54 : Hid (Ow w54 w.heap.size 64 7 (.slice A L.length cp) (L.map Event.cells)):=hd_ (by rw [hw];exact (OS53.out).alloc _)
    have HX : Hid (w54.heap[w53.heap.size]? = some (.cells (evC ev) 64 (0,0))):=hd_ (by rw [hw];exact zqi (by first | rfl | (simp;done)))
    have hbz:=HG54.out.size
    clear hw
    clear E Ef Ez
    refine zqz rfl _ _ _ rfl w.heap.size 64 i0 _ 7 56 Tryz.underlying26 HI0 HI1 HI2 HI3 rfl (by decide) (.slice A L.length cp) _ rfl OS54.out w53.heap.size 1 [.int .i64 ev.Kind,.int .i64 ev.Key,.int .i64 ev.Ch,.int .i64 ev.To,.int .i64 ev.Amt,.int .i64 ev.Fee,.bool ev.Yes] 64 (by rfl) HX rfl (by simp [Value.oneCell']) (by rw [List.length_map];omega) (by decide) hbz ?_
    intro g2 cap2 x2 how2 hgr2 hat2 hlt2
    have hcn : Crs x2 g:=HC54.out.grown hgr2 (fun k9 e9 => by have:=(OS54.out.block k9 e9).1;omega)
    have hgn : w.grownBy x2 (some g):=zkx HG54 OS54.out hgr2
    rw [List.length_map] at how2 ⊢
    clear hgr2 hat2
    go_wp2_with fail
    go_roundw
    case rel => exact ⟨N - 1,L ++ [⟨ev.Kind,ev.Key,ev.Ch,ev.To,ev.Amt,ev.Fee,ev.Yes⟩],some ⟨g2,0,none⟩,cap2,by omega,by omega,by go_num,by rw [List.length_append];rfl,by rw [List.length_append,List.length_singleton];omega,hd_ (by rw [List.map_append,List.length_append];exact how2),hd_ hcn,hd_ hgn⟩
    case measure => simp [intOf];omega
   go_wp2_with fail
   refine (zxd g 6 _ HC53 (by first | decide | omega) (by first | decide | omega)).mono ?_
   rintro e' w54 ⟨b,b1,b2,rfl,hcn,hg⟩
   have HC54:=hd_ hcn
   have HG54:=hd_ (zqt HG53 hg)
   have HE54:=hd_ (zqe hg (zxj (by have:=HLE.out;omega)) HE53)
   have OS54:=hd_ (OS53.out.pastL hg hgw)
   clear hcn hg
   clear E Ef Ez
   obtain ⟨E,Ef,Ez⟩:=bc7_ HE54
   go_wp2_with fail
   refine (zxd g 3 _ HC54 (by first | decide | omega) (by first | decide | omega)).mono ?_
   rintro e' w55 ⟨c,c1,c2,rfl,hcn,hg⟩
   have HC55:=hd_ hcn
   have HG55:=hd_ (zqt HG54 hg)
   have HE55:=hd_ (zqe hg (zxj (by have:=HLE.out;omega)) HE54)
   have OS55:=hd_ (OS54.out.pastL hg hgw)
   clear hcn hg
   clear E Ef Ez
   obtain ⟨E,Ef,Ez⟩:=bc7_ HE55
   go_wp2_with fail
   refine (zxd g 5000 _ HC55 (by first | decide | omega) (by first | decide | omega)).mono ?_
   rintro e' w56 ⟨e,e1,e2,rfl,hcn,hg⟩
   have HC56:=hd_ hcn
   have HG56:=hd_ (zqt HG55 hg)
   have HE56:=hd_ (zqe hg (zxj (by have:=HLE.out;omega)) HE55)
   have OS56:=hd_ (OS55.out.pastL hg hgw)
   clear hcn hg
   clear E Ef Ez
   obtain ⟨E,Ef,Ez⟩:=bc7_ HE56
   go_wp2_with fail
   refine (zxd g 2 _ HC56 (by first | decide | omega) (by first | decide | omega)).mono ?_
   rintro e' w57 ⟨f,f1,f2,rfl,hcn,hg⟩
   have HC57:=hd_ hcn
   have HG57:=hd_ (zqt HG56 hg)
   have HE57:=hd_ (zqe hg (zxj (by have:=HLE.out;omega)) HE56)
   have OS57:=hd_ (OS56.out.pastL hg hgw)
   clear hcn hg
   clear E Ef Ez
   obtain ⟨E,Ef,Ez⟩:=bc7_ HE57
   go_upto_region 11 with fail
   refine nm_ ?_
   intro w58 hw
   have HC58 : Hid (Crs w58 g):=hd_ (by rw [hw];exact ((((((((HC57.out).set (by have:=HLE.out;omega)).set (by have:=HLE.out;omega)).set (by have:=HLE.out;omega)).set (by have:=HLE.out;omega)).set (by have:=HLE.out;omega)).set (by have:=HLE.out;omega)).set (by have:=HLE.out;omega)).set (by have:=HLE.out;omega))
   have HG58 : Hid (w.grownBy w58 (some g)):=hd_ (by rw [hw];exact zqn (zqn (zqn (zqn (zqn (zqn (zqn (zqn (HG57.out) HLE _ _) HLE _ _) HLE _ _) HLE _ _) HLE _ _) HLE _ _) HLE _ _) HLE _ _)
   have HE58 : Hid (Hx w58 EB (qaiiiiiib 5 (1 + b) (1 + c) (1 + (1 + c) % 3) (1 + e) 0 (f == 0)) 64):=hd_ (by rw [hw];exact zqa (zqa (zqa (zqa (zqa (zqa (zqa (zqa (HE57.out)))))))))
   have OS58 : Hid (Ow w58 w.heap.size 64 7 (.slice A L.length cp) (L.map Event.cells)):=hd_ (by rw [hw];exact ((((((((OS57.out).apart HASE).apart HASE).apart HASE).apart HASE).apart HASE).apart HASE).apart HASE).apart HASE)
   clear hw
   clear E Ef Ez
   obtain ⟨E,Ef,Ez⟩:=bc7_ HE58
   go_wp2_with (at_builtin;refine Stop.go ?_)
   refine Stop.on ?_
   refine zva (fun w59 hw => ?_)
   have HC59 : Hid (Crs w59 g):=hd_ (by rw [hw];exact (HC58.out).alloc _)
   have HG59 : Hid (w.grownBy w59 (some g)):=hd_ (by rw [hw];exact zxp (HG58.out) _)
   have HE59 : Hid (Hx w59 EB (qaiiiiiib 5 (1 + b) (1 + c) (1 + (1 + c) % 3) (1 + e) 0 (f == 0)) 64):=hd_ (by rw [hw];exact zqd (by have:=(gz_ HE58).1;first | omega | (simp;omega)) (HE58.out))
   have OS59 : Hid (Ow w59 w.heap.size 64 7 (.slice A L.length cp) (L.map Event.cells)):=hd_ (by rw [hw];exact (OS58.out).alloc _)
   have HX : Hid (w59.heap[w58.heap.size]? = some (.cells #[.int .i64 5,.int .i64 (1 + b),.int .i64 (1 + c),.int .i64 (1 + (1 + c) % 3),.int .i64 (1 + e),.int .i64 0,.bool (f == 0)] 64 (0,0))):=hd_ (by rw [hw];exact zqi (by first | rfl | (simp;done)))
   have hbz:=HG59.out.size
   clear hw
   clear E Ef Ez
   refine zqz rfl _ _ _ rfl w.heap.size 64 i0 _ 7 56 Tryz.underlying26 HI0 HI1 HI2 HI3 rfl (by decide) (.slice A L.length cp) _ rfl OS59.out w58.heap.size 1 [.int .i64 5,.int .i64 (1 + b),.int .i64 (1 + c),.int .i64 (1 + (1 + c) % 3),.int .i64 (1 + e),.int .i64 0,.bool (f == 0)] 64 (by rfl) HX rfl (by simp [Value.oneCell']) (by rw [List.length_map];omega) (by decide) hbz ?_
   intro g2 cap2 x2 how2 hgr2 hat2 hlt2
   have hcn : Crs x2 g:=HC59.out.grown hgr2 (fun k9 e9 => by have:=(OS59.out.block k9 e9).1;omega)
   have hgn : w.grownBy x2 (some g):=zkx HG59 OS59.out hgr2
   rw [List.length_map] at how2 ⊢
   clear hgr2 hat2
   go_wp2_with fail
   go_roundw
   case rel => exact ⟨N - 1,L ++ [⟨5,(1 + b),(1 + c),(1 + (1 + c) % 3),(1 + e),0,(f == 0)⟩],some ⟨g2,0,none⟩,cap2,by omega,by omega,by go_num,by rw [List.length_append];rfl,by rw [List.length_append,List.length_singleton];omega,hd_ (by rw [List.map_append,List.length_append];exact how2),hd_ hcn,hd_ hgn⟩
   case measure => simp [intOf];omega
 go_wp2_with fail
 refine (zxd g 5 _ HC5 (by first | decide | omega) (by first | decide | omega)).mono ?_
 rintro e' w6 ⟨s,s1,s2,rfl,hcn,hg⟩
 have HC6:=hd_ hcn
 have HG6:=hd_ (zqt HG5 hg)
 have OS6:=hd_ (OS5.out.pastL hg hgw)
 clear hcn hg
 obtain ⟨n,rfl⟩:=Int.eq_ofNat_of_zero_le s1
 go_wp2_with fail
 have hsh:=Ow.shorter (A:=some ⟨G,0,none⟩) (cp:=5) (rows:=es.map Event.cells) (m:=n) (by rw [List.length_map,HEL.out];exact OS6.out) (by rw [List.length_map,HEL.out];omega)
 have hel2 : (es.take n).length = n:=by rw [List.length_take,HEL.out];omega
 rw [← List.map_take] at hsh
 have HE2:=hd_ hel2
 clear OS6 hel2
 have OS6:=hd_ hsh
 clear hsh
 refine (zxd g (most + 1) _ HC6 (by first | decide | omega) (by first | decide | omega)).mono ?_
 rintro e' w7 ⟨m,m1,m2,rfl,hcn,hg⟩
 have HC7:=hd_ hcn
 have HG7:=hd_ (zqt HG6 hg)
 have OS7:=hd_ (OS6.out.pastL hg hgw)
 clear hcn hg
 go_wp2_with fail
 go_loopw [5,6] (fun vl vn wr => ∃ (N : Int) (L : List Event) (A : Option Addr) (cp : Nat),0 ≤ N∧N ≤ 100∧vn = .int .i64 N∧vl = .slice A L.length cp∧(L.length : Int) + N ≤ 105∧Hid (Ow wr w.heap.size 64 7 (.slice A L.length cp) (L.map Event.cells))∧Hid (Crs wr g)∧Hid (w.grownBy wr (some g))) (fun _ vn _ => (intOf vn).toNat)
 case atStart => exact ⟨m,es.take n,some ⟨G,0,none⟩,5,m1,by omega,rfl,by rw [HE2.out],by rw [HE2.out];omega,hd_ (by rw [HE2.out];exact OS7.out),HC7,HG7⟩
 case round =>
  clear OS7 HC7 HG7
  obtain ⟨N,L,A,cp,n1,n2,rfl,rfl,hLN,OS_wr,HC_wr,HG_wr⟩:=hrel
  have hgz:=HG_wr.out.size
  by_cases hlt : 0 < N
  rotate_left
  ·
   obtain rfl : N = 0:=by omega
   go_wp2_with fail
   go_ret
   exact ⟨L,A,cp,rfl,by omega,OS_wr.out,HC_wr.out,HG_wr.out⟩
  go_wp2_with fail
  refine (zsj g _ HC_wr).mono ?_
  rintro e' w51 ⟨ev,rfl,hcn,hg⟩
  have HC51:=hd_ hcn
  have HG51:=hd_ (zqt HG_wr hg)
  have OS51:=hd_ (OS_wr.out.pastL hg hgw)
  clear hcn hg
  go_wp2_with fail
  refine nm_ ?_
  intro w52 hw
  have HC52 : Hid (Crs w52 g):=hd_ (by rw [hw];exact (HC51.out).alloc _)
  have HG52 : Hid (w.grownBy w52 (some g)):=hd_ (by rw [hw];exact zxp (HG51.out) _)
  have OS52 : Hid (Ow w52 w.heap.size 64 7 (.slice A L.length cp) (L.map Event.cells)):=hd_ (by rw [hw];exact (OS51.out).alloc _)
  obtain ⟨EB,h9E⟩ : ∃ v,v = w51.heap.size:=⟨_,rfl⟩
  have HE52 : Hid (Hx w52 EB (evC ev) 64):=hd_ (by rw [hw,h9E];exact zqi (by first | rfl | (simp;done)))
  have HLE : Hid (w.heap.size ≤ EB):=hd_ (by have:=HG51.out.size;omega)
  have HASE : Hid (∀ k,(.slice A L.length cp : Value).ownBlock = some k → k ≠ EB):=hd_ (fun k9 e9 => by have:=(OS51.out.block k9 e9).2;omega)
  try rw [← h9E]
  clear hw h9E
  obtain ⟨E,Ef,Ez⟩:=bc7_ HE52
  refine (zxd g 3 _ HC52 (by first | decide | omega) (by first | decide | omega)).mono ?_
  rintro e' w53 ⟨a,a1,a2,rfl,hcn,hg⟩
  have HC53:=hd_ hcn
  have HG53:=hd_ (zqt HG52 hg)
  have HE53:=hd_ (zqe hg (zxj (by have:=HLE.out;omega)) HE52)
  have OS53:=hd_ (OS52.out.pastL hg hgw)
  clear hcn hg
  clear E Ef Ez
  obtain ⟨E,Ef,Ez⟩:=bc7_ HE53
  cases ta : (a == 0)
  ·
   go_wp2_with (at_builtin;refine Stop.go ?_)
   refine Stop.on ?_
   refine zva (fun w54 hw => ?_)
   have HC54 : Hid (Crs w54 g):=hd_ (by rw [hw];exact (HC53.out).alloc _)
   have HG54 : Hid (w.grownBy w54 (some g)):=hd_ (by rw [hw];exact zxp (HG53.out) _)
   have HE54 : Hid (Hx w54 EB (evC ev) 64):=hd_ (by rw [hw];exact zqd (by have:=(gz_ HE53).1;first | omega | (simp;omega)) (HE53.out))
   have OS54 : Hid (Ow w54 w.heap.size 64 7 (.slice A L.length cp) (L.map Event.cells)):=hd_ (by rw [hw];exact (OS53.out).alloc _)
   have HX : Hid (w54.heap[w53.heap.size]? = some (.cells (evC ev) 64 (0,0))):=hd_ (by rw [hw];exact zqi (by first | rfl | (simp;done)))
   have hbz:=HG54.out.size
   clear hw
   clear E Ef Ez
   refine zqz rfl _ _ _ rfl w.heap.size 64 i0 _ 7 56 Tryz.underlying26 HI0 HI1 HI2 HI3 rfl (by decide) (.slice A L.length cp) _ rfl OS54.out w53.heap.size 1 [.int .i64 ev.Kind,.int .i64 ev.Key,.int .i64 ev.Ch,.int .i64 ev.To,.int .i64 ev.Amt,.int .i64 ev.Fee,.bool ev.Yes] 64 (by rfl) HX rfl (by simp [Value.oneCell']) (by rw [List.length_map];omega) (by decide) hbz ?_
   intro g2 cap2 x2 how2 hgr2 hat2 hlt2
   have hcn : Crs x2 g:=HC54.out.grown hgr2 (fun k9 e9 => by have:=(OS54.out.block k9 e9).1;omega)
   have hgn : w.grownBy x2 (some g):=zkx HG54 OS54.out hgr2
   rw [List.length_map] at how2 ⊢
   clear hgr2 hat2
   go_wp2_with fail
   go_roundw
   case rel => exact ⟨N - 1,L ++ [⟨ev.Kind,ev.Key,ev.Ch,ev.To,ev.Amt,ev.Fee,ev.Yes⟩],some ⟨g2,0,none⟩,cap2,by omega,by omega,by go_num,by rw [List.length_append];rfl,by rw [List.length_append,List.length_singleton];omega,hd_ (by rw [List.map_append,List.length_append];exact how2),hd_ hcn,hd_ hgn⟩
   case measure => simp [intOf];omega
  go_wp2_with fail
  refine (zxd g 6 _ HC53 (by first | decide | omega) (by first | decide | omega)).mono ?_
  rintro e' w54 ⟨b,b1,b2,rfl,hcn,hg⟩
  have HC54:=hd_ hcn
  have HG54:=hd_ (zqt HG53 hg)
  have HE54:=hd_ (zqe hg (zxj (by have:=HLE.out;omega)) HE53)
  have OS54:=hd_ (OS53.out.pastL hg hgw)
  clear hcn hg
  clear E Ef Ez
  obtain ⟨E,Ef,Ez⟩:=bc7_ HE54
  go_wp2_with fail
  refine (zxd g 3 _ HC54 (by first | decide | omega) (by first | decide | omega)).mono ?_
  rintro e' w55 ⟨c,c1,c2,rfl,hcn,hg⟩
  have HC55:=hd_ hcn
  have HG55:=hd_ (zqt HG54 hg)
  have HE55:=hd_ (zqe hg (zxj (by have:=HLE.out;omega)) HE54)
  have OS55:=hd_ (OS54.out.pastL hg hgw)
  clear hcn hg
  clear E Ef Ez
  obtain ⟨E,Ef,Ez⟩:=bc7_ HE55
  go_wp2_with fail
  refine (zxd g 5000 _ HC55 (by first | decide | omega) (by first | decide | omega)).mono ?_
  rintro e' w56 ⟨e,e1,e2,rfl,hcn,hg⟩
  have HC56:=hd_ hcn
  have HG56:=hd_ (zqt HG55 hg)
  have HE56:=hd_ (zqe hg (zxj (by have:=HLE.out;omega)) HE55)
  have OS56:=hd_ (OS55.out.pastL hg hgw)
  clear hcn hg
  clear E Ef Ez
  obtain ⟨E,Ef,Ez⟩:=bc7_ HE56
  go_wp2_with fail
  refine (zxd g 2 _ HC56 (by first | decide | omega) (by first | decide | omega)).mono ?_
  rintro e' w57 ⟨f,f1,f2,rfl,hcn,hg⟩
  have HC57:=hd_ hcn
  have HG57:=hd_ (zqt HG56 hg)
  have HE57:=hd_ (zqe hg (zxj (by have:=HLE.out;omega)) HE56)
  have OS57:=hd_ (OS56.out.pastL hg hgw)
  clear hcn hg
  clear E Ef Ez
  obtain ⟨E,Ef,Ez⟩:=bc7_ HE57
  go_upto_region 11 with fail
  refine nm_ ?_
  intro w58 hw
  have HC58 : Hid (Crs w58 g):=hd_ (by rw [hw];exact ((((((((HC57.out).set (by have:=HLE.out;omega)).set (by have:=HLE.out;omega)).set (by have:=HLE.out;omega)).set (by have:=HLE.out;omega)).set (by have:=HLE.out;omega)).set (by have:=HLE.out;omega)).set (by have:=HLE.out;omega)).set (by have:=HLE.out;omega))
  have HG58 : Hid (w.grownBy w58 (some g)):=hd_ (by rw [hw];exact zqn (zqn (zqn (zqn (zqn (zqn (zqn (zqn (HG57.out) HLE _ _) HLE _ _) HLE _ _) HLE _ _) HLE _ _) HLE _ _) HLE _ _) HLE _ _)
  have HE58 : Hid (Hx w58 EB (qaiiiiiib 5 (1 + b) (1 + c) (1 + (1 + c) % 3) (1 + e) 0 (f == 0)) 64):=hd_ (by rw [hw];exact zqa (zqa (zqa (zqa (zqa (zqa (zqa (zqa (HE57.out)))))))))
  have OS58 : Hid (Ow w58 w.heap.size 64 7 (.slice A L.length cp) (L.map Event.cells)):=hd_ (by rw [hw];exact ((((((((OS57.out).apart HASE).apart HASE).apart HASE).apart HASE).apart HASE).apart HASE).apart HASE).apart HASE)
  clear hw
  clear E Ef Ez
  obtain ⟨E,Ef,Ez⟩:=bc7_ HE58
  go_wp2_with (at_builtin;refine Stop.go ?_)
  refine Stop.on ?_
  refine zva (fun w59 hw => ?_)
  have HC59 : Hid (Crs w59 g):=hd_ (by rw [hw];exact (HC58.out).alloc _)
  have HG59 : Hid (w.grownBy w59 (some g)):=hd_ (by rw [hw];exact zxp (HG58.out) _)
  have HE59 : Hid (Hx w59 EB (qaiiiiiib 5 (1 + b) (1 + c) (1 + (1 + c) % 3) (1 + e) 0 (f == 0)) 64):=hd_ (by rw [hw];exact zqd (by have:=(gz_ HE58).1;first | omega | (simp;omega)) (HE58.out))
  have OS59 : Hid (Ow w59 w.heap.size 64 7 (.slice A L.length cp) (L.map Event.cells)):=hd_ (by rw [hw];exact (OS58.out).alloc _)
  have HX : Hid (w59.heap[w58.heap.size]? = some (.cells #[.int .i64 5,.int .i64 (1 + b),.int .i64 (1 + c),.int .i64 (1 + (1 + c) % 3),.int .i64 (1 + e),.int .i64 0,.bool (f == 0)] 64 (0,0))):=hd_ (by rw [hw];exact zqi (by first | rfl | (simp;done)))
  have hbz:=HG59.out.size
  clear hw
  clear E Ef Ez
  refine zqz rfl _ _ _ rfl w.heap.size 64 i0 _ 7 56 Tryz.underlying26 HI0 HI1 HI2 HI3 rfl (by decide) (.slice A L.length cp) _ rfl OS59.out w58.heap.size 1 [.int .i64 5,.int .i64 (1 + b),.int .i64 (1 + c),.int .i64 (1 + (1 + c) % 3),.int .i64 (1 + e),.int .i64 0,.bool (f == 0)] 64 (by rfl) HX rfl (by simp [Value.oneCell']) (by rw [List.length_map];omega) (by decide) hbz ?_
  intro g2 cap2 x2 how2 hgr2 hat2 hlt2
  have hcn : Crs x2 g:=HC59.out.grown hgr2 (fun k9 e9 => by have:=(OS59.out.block k9 e9).1;omega)
  have hgn : w.grownBy x2 (some g):=zkx HG59 OS59.out hgr2
  rw [List.length_map] at how2 ⊢
  clear hgr2 hat2
  go_wp2_with fail
  go_roundw
  case rel => exact ⟨N - 1,L ++ [⟨5,(1 + b),(1 + c),(1 + (1 + c) % 3),(1 + e),0,(f == 0)⟩],some ⟨g2,0,none⟩,cap2,by omega,by omega,by go_num,by rw [List.length_append];rfl,by rw [List.length_append,List.length_singleton];omega,hd_ (by rw [List.map_append,List.length_append];exact how2),hd_ hcn,hd_ hgn⟩
  case measure => simp [intOf];omega
end Go.Proofs.YtdbmkfmenfcbiaaGreat

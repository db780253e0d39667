/- Draws: events. -/
import Derived.Test.YtdbmkfmenfcbiaaGreatRows
import Derived.Test.YtdbmkfmenfcbiaaGreatSM2
import Derived.Test.YtdbmkfmenfcbiaaGreatSDrawEv
namespace Go.Proofs.YtdbmkfmenfcbiaaGreat
open Go.RowKit Go.Deep
theorem Ow.lit_ {w : World} {B size g : Nat} {e : TypeId} {rows : List (List Value)} {cs : Array Value} (hu : ∀ r ∈ rows,r.length = size) (hcs : cs = rows.flatten.toArray) (hm : rows.length ≤ maxLen) (hg : g = w.heap.size) (hB : B ≤ g) : Ow (w.alloc (.cells cs e)) B e size (.slice (some ⟨g,0,none⟩) rows.length rows.length) rows:=by
 subst hcs hg
 exact ⟨hu,by simpa using World.ownsRow_lit w rows.flatten.toArray rows.length hB hm (by simpa using zxu rows size hu)⟩
theorem Ow.apart {w : World} {B size X i : Nat} {e : TypeId} {v u : Value} {rows : List (List Value)} (h : Ow w B e size v rows) (hX : ∀ k,v.ownBlock = some k → k ≠ X) : Ow (w.setCell ⟨X,i,none⟩ u) B e size v rows :=
 h.grown (zqh (World.grownBy.refl w (some X)) i u) (by
  cases hv : v.ownBlock with
  | none => exact .inl rfl
  | some k => exact .inr (zqy (hX k hv)))
theorem zge (l : List Event) : ∀ r ∈ l.map Event.cells,r.length = 7:=by
 intro r hr
 obtain ⟨x,_,rfl⟩:=List.mem_map.1 hr
 rfl
theorem zjr {w a b : World} {g n : Nat} {e : TypeId} {v : Value} {rows : List (List Value)} (h : w.grownBy a (some g)) (how : Ow a w.heap.size e n v rows) (hg : a.grownBy b v.ownBlock) : w.grownBy b (some g) :=
 ⟨hg.os.trans h.os,hg.tape.trans h.tape,hg.output.trans h.output,Nat.le_trans h.size hg.size,fun k hk hne => (hg.block k (Nat.lt_of_lt_of_le hk h.size) (fun e9 => by have:=(how.block k e9.symm).1;omega)).trans (h.block k hk hne)⟩
theorem zwq : (Tryz.prog.info? 64).map (fun i => (i.zero,i.size,i.bytes)) = some (some (.agg #[.int .i64 0,.int .i64 0,.int .i64 0,.int .i64 0,.int .i64 0,.int .i64 0,.bool false]),7,56):=by kernel_rfl
def DrewEs (g : Nat) (m : Nat) (w : World) (e : Ending) (w' : World) : Prop:=∃ (es : List Event) (A : Option Addr) (cap : Nat),e = .returned (.slice A es.length cap)∧es.length ≤ m∧Ow w' w.heap.size 64 7 (.slice A es.length cap) (es.map Event.cells)∧Crs w' g∧w.grownBy w' (some g)
set_option maxRecDepth 100000 in
set_option maxHeartbeats 4000000 in
theorem zww (g : Nat) (most : Int) (w : World) (hc : Crs w g) (h1 : 0 ≤ most) (h2 : most ≤ 100) :
  Calls Tryz.prog 80 #[.pointer (some ⟨g,0,none⟩),.int .i64 most] w (DrewEs g 105 w):=by
 obtain ⟨i0,hi,hz0,hz1,hz2⟩:=info_parts zwq
 have HI0:=hd_ hi
 have HI1:=hd_ hz0
 have HI2:=hd_ hz1
 have HI3:=hd_ hz2
 clear hi hz0 hz1 hz2
 have hgw:=hc.lt
 have HC_w:=hd_ hc
 have HG_w:=hd_ (World.grownBy.refl w (some g))
 clear hc
 go_enter Tryz.func80,Tryz.ntmps80
 go_wp2_with fail
 refine (zqp g 3 _ HC_w.out (by first | decide | omega) (by first | decide | omega)).mono ?_
 rintro e' w1 ⟨x,x1,x2,rfl,hcn,hg⟩
 have HC_w1:=hd_ hcn
 have HG_w1:=hd_ (zql HG_w.out hg)
 clear hcn hg
 go_wp2_with fail
 refine (zqp g 20 _ HC_w1.out (by first | decide | omega) (by first | decide | omega)).mono ?_
 rintro e' w2 ⟨y,y1,y2,rfl,hcn,hg⟩
 have HC_w2:=hd_ hcn
 have HG_w2:=hd_ (zql HG_w1.out hg)
 clear hcn hg
 go_wp2_with fail
 refine (zqp g 20000 _ HC_w2.out (by first | decide | omega) (by first | decide | omega)).mono ?_
 rintro e' w3 ⟨z,z1,z2,rfl,hcn,hg⟩
 have HC_w3:=hd_ hcn
 have HG_w3:=hd_ (zql HG_w2.out hg)
 clear hcn hg
 obtain ⟨es,hes⟩ : ∃ es : List Event,es = [⟨1,0,0,0,100000,0,false⟩,⟨2,0,1,0,20000,10000,false⟩,⟨2,0,2,0,10000,20000,false⟩,⟨2,0,3,0,15000,15000,false⟩,⟨4,0,1 + x,0,y,z,false⟩]:=⟨_,rfl⟩
 go_wp2_with fail
 refine zja (fun w4 hw => ?_)
 have HC_w4 : Hid (Crs w4 g):=hd_ (by rw [hw];exact (HC_w3.out).alloc _)
 have HG_w4 : Hid (w.grownBy w4 (some g)):=hd_ (by rw [hw];exact zxf (HG_w3.out) _)
 have hel : es.length = 5:=by rw [hes];rfl
 have OS_w4 : Hid (Ow w4 w.heap.size 64 7 (.slice (some ⟨w3.heap.size,0,none⟩) 5 5) (es.map Event.cells)):=hd_ (by have h9:=Ow.lit_ (w:=w3) (B:=w.heap.size) (g:=w3.heap.size) (e:=64) (rows:=es.map Event.cells) (zge es) rfl (by rw [List.length_map,hel];decide) rfl HG_w3.out.size;rw [List.length_map,hel] at h9;rw [hw];subst hes;exact h9)
 obtain ⟨G,hG⟩ : ∃ v,v = w3.heap.size:=⟨_,rfl⟩
 rw [← hG] at OS_w4 ⊢
 have HEL:=hd_ hel
 clear hw hes hel hG
 refine (zqp g 4 _ HC_w4.out (by first | decide | omega) (by first | decide | omega)).mono ?_
 rintro e' w5 ⟨q,q1,q2,rfl,hcn,hg⟩
 have HC_w5:=hd_ hcn
 have HG_w5:=hd_ (zql HG_w4.out hg)
 have OS_w5:=hd_ (OS_w4.out.pastL hg hgw)
 clear hcn hg
 clear x1 x2 y1 y2 z1 z2
 cases tq : (q == 0)
 ·
  go_wp2_with fail
  refine (zqp g (most + 1) _ HC_w5.out (by first | decide | omega) (by first | decide | omega)).mono ?_
  rintro e' w6 ⟨m,m1,m2,rfl,hcn,hg⟩
  have HC_w6:=hd_ hcn
  have HG_w6:=hd_ (zql HG_w5.out hg)
  have OS_w6:=hd_ (OS_w5.out.pastL hg hgw)
  clear hcn hg
  go_wp2_with fail
  go_loopw [5,6] (fun vl vn wr => ∃ (N : Int) (L : List Event) (A : Option Addr) (cp : Nat),0 ≤ N∧N ≤ 100∧vn = .int .i64 N∧vl = .slice A L.length cp∧(L.length : Int) + N ≤ 105∧Hid (Ow wr w.heap.size 64 7 (.slice A L.length cp) (L.map Event.cells))∧Hid (Crs wr g)∧Hid (w.grownBy wr (some g))) (fun _ vn _ => (intOf vn).toNat)
  case atStart => exact ⟨m,es,some ⟨G,0,none⟩,5,m1,by omega,rfl,by rw [HEL.out],by rw [HEL.out];omega,hd_ (by rw [HEL.out];exact OS_w6.out),HC_w6,HG_w6⟩
  case round =>
   clear OS_w6 HC_w6 HG_w6
   obtain ⟨N,L,A,cp,n1,n2,rfl,rfl,hLN,OS_wr,HC_wr,HG_wr⟩:=hrel
   have hgz:=HG_wr.out.size
   by_cases hlt : 0 < N
   ·
    go_wp2_with fail
    refine (ztg g _ HC_wr.out).mono ?_
    rintro e' w51 ⟨ev,rfl,hcn,hg⟩
    have HC_w51:=hd_ hcn
    have HG_w51:=hd_ (zql HG_wr.out hg)
    have OS_w51:=hd_ (OS_wr.out.pastL hg hgw)
    clear hcn hg
    go_wp2_with fail
    refine nm_ ?_
    intro w52 hw
    have HC_w52 : Hid (Crs w52 g):=hd_ (by rw [hw];exact (HC_w51.out).alloc _)
    have HG_w52 : Hid (w.grownBy w52 (some g)):=hd_ (by rw [hw];exact zxf (HG_w51.out) _)
    have OS_w52 : Hid (Ow w52 w.heap.size 64 7 (.slice A L.length cp) (L.map Event.cells)):=hd_ (by rw [hw];exact (OS_w51.out).alloc _)
    obtain ⟨EB,h9E⟩ : ∃ v,v = w51.heap.size:=⟨_,rfl⟩
    have HE_w52 : Hid (Hx w52 EB (evC ev) 64):=hd_ (by rw [hw,h9E];exact zqm (by first | rfl | (simp;done)))
    have HLE : Hid (w.heap.size ≤ EB):=hd_ (by have:=HG_w51.out.size;omega)
    have HASE : Hid (∀ k,(.slice A L.length cp : Value).ownBlock = some k → k ≠ EB):=hd_ (fun k9 e9 => by have:=(OS_w51.out.block k9 e9).2;omega)
    try rw [← h9E]
    clear hw h9E
    obtain ⟨E0,E1,E2,E3,E4,E5,E6,Ef,Ez⟩:=box7_ HE_w52.out
    refine (zqp g 3 _ HC_w52.out (by first | decide | omega) (by first | decide | omega)).mono ?_
    rintro e' w53 ⟨a,a1,a2,rfl,hcn,hg⟩
    have HC_w53:=hd_ hcn
    have HG_w53:=hd_ (zql HG_w52.out hg)
    have HE_w53:=hd_ (zqd hg (zqy (by have:=HLE.out;omega)) HE_w52.out)
    have OS_w53:=hd_ (OS_w52.out.pastL hg hgw)
    clear hcn hg
    clear E0 E1 E2 E3 E4 E5 E6 Ef Ez
    obtain ⟨E0,E1,E2,E3,E4,E5,E6,Ef,Ez⟩:=box7_ HE_w53.out
    cases ta : (a == 0)
    ·
     go_wp2_with (at_builtin;refine Stop.go ?_)
     refine Stop.on ?_
     refine zjd (fun w54 hw => ?_)
     have HC_w54 : Hid (Crs w54 g):=hd_ (by rw [hw];exact (HC_w53.out).alloc _)
     have HG_w54 : Hid (w.grownBy w54 (some g)):=hd_ (by rw [hw];exact zxf (HG_w53.out) _)
     have HE_w54 : Hid (Hx w54 EB (evC ev) 64):=hd_ (by rw [hw];exact zqg (by have:=(gz_ HE_w53.out).1;first | omega | (simp;omega)) (HE_w53.out))
     have OS_w54 : Hid (Ow w54 w.heap.size 64 7 (.slice A L.length cp) (L.map Event.cells)):=hd_ (by rw [hw];exact (OS_w53.out).alloc _)
     have HX : Hid (w54.heap[w53.heap.size]? = some (.cells (evC ev) 64 (0,0))):=hd_ (by rw [hw];exact zqm (by first | rfl | (simp;done)))
     have hbz:=HG_w54.out.size
     clear hw
     clear E0 E1 E2 E3 E4 E5 E6 Ef Ez
     refine zqr rfl _ _ _ rfl w.heap.size 64 i0 _ 7 56 Tryz.underlying26 HI0.out HI1.out HI2.out HI3.out rfl (by decide) (.slice A L.length cp) _ rfl OS_w54.out w53.heap.size 1 [.int .i64 ev.Kind,.int .i64 ev.Key,.int .i64 ev.Ch,.int .i64 ev.To,.int .i64 ev.Amt,.int .i64 ev.Fee,.bool ev.Yes] 64 (by rfl) HX.out rfl (by simp [Value.oneCell']) (by rw [List.length_map];omega) (by decide) hbz ?_
     intro g2 cap2 x2 how2 hgr2 hat2 hlt2
     have hcn : Crs x2 g:=HC_w54.out.grown hgr2 (fun k9 e9 => by have:=(OS_w54.out.block k9 e9).1;omega)
     have hgn : w.grownBy x2 (some g):=zjr HG_w54.out OS_w54.out hgr2
     rw [List.length_map] at how2 ⊢
     clear hgr2 hat2
     go_wp2_with fail
     go_roundw
     case rel => exact ⟨N - 1,L ++ [⟨ev.Kind,ev.Key,ev.Ch,ev.To,ev.Amt,ev.Fee,ev.Yes⟩],some ⟨g2,0,none⟩,cap2,by omega,by omega,by go_num,by rw [List.length_append];rfl,by rw [List.length_append,List.length_singleton];omega,hd_ (by rw [List.map_append,List.length_append];exact how2),hd_ hcn,hd_ hgn⟩
     case measure => simp [intOf];omega
    ·
     go_wp2_with fail
     refine (zqp g 6 _ HC_w53.out (by first | decide | omega) (by first | decide | omega)).mono ?_
     rintro e' w54 ⟨b,b1,b2,rfl,hcn,hg⟩
     have HC_w54:=hd_ hcn
     have HG_w54:=hd_ (zql HG_w53.out hg)
     have HE_w54:=hd_ (zqd hg (zqy (by have:=HLE.out;omega)) HE_w53.out)
     have OS_w54:=hd_ (OS_w53.out.pastL hg hgw)
     clear hcn hg
     clear E0 E1 E2 E3 E4 E5 E6 Ef Ez
     obtain ⟨E0,E1,E2,E3,E4,E5,E6,Ef,Ez⟩:=box7_ HE_w54.out
     go_wp2_with fail
     refine (zqp g 3 _ HC_w54.out (by first | decide | omega) (by first | decide | omega)).mono ?_
     rintro e' w55 ⟨c,c1,c2,rfl,hcn,hg⟩
     have HC_w55:=hd_ hcn
     have HG_w55:=hd_ (zql HG_w54.out hg)
     have HE_w55:=hd_ (zqd hg (zqy (by have:=HLE.out;omega)) HE_w54.out)
     have OS_w55:=hd_ (OS_w54.out.pastL hg hgw)
     clear hcn hg
     clear E0 E1 E2 E3 E4 E5 E6 Ef Ez
     obtain ⟨E0,E1,E2,E3,E4,E5,E6,Ef,Ez⟩:=box7_ HE_w55.out
     go_wp2_with fail
     refine (zqp g 5000 _ HC_w55.out (by first | decide | omega) (by first | decide | omega)).mono ?_
     rintro e' w56 ⟨e,e1,e2,rfl,hcn,hg⟩
     have HC_w56:=hd_ hcn
     have HG_w56:=hd_ (zql HG_w55.out hg)
     have HE_w56:=hd_ (zqd hg (zqy (by have:=HLE.out;omega)) HE_w55.out)
     have OS_w56:=hd_ (OS_w55.out.pastL hg hgw)
     clear hcn hg
     clear E0 E1 E2 E3 E4 E5 E6 Ef Ez
     obtain ⟨E0,E1,E2,E3,E4,E5,E6,Ef,Ez⟩:=box7_ HE_w56.out
     go_wp2_with fail
     refine (zqp g 2 _ HC_w56.out (by first | decide | omega) (by first | decide | omega)).mono ?_
     rintro e' w57 ⟨f,f1,f2,rfl,hcn,hg⟩
     have HC_w57:=hd_ hcn
     have HG_w57:=hd_ (zql HG_w56.out hg)
     have HE_w57:=hd_ (zqd hg (zqy (by have:=HLE.out;omega)) HE_w56.out)
     have OS_w57:=hd_ (OS_w56.out.pastL hg hgw)
     clear hcn hg
     clear E0 E1 E2 E3 E4 E5 E6 Ef Ez
     obtain ⟨E0,E1,E2,E3,E4,E5,E6,Ef,Ez⟩:=box7_ HE_w57.out
     go_upto_region 11 with fail
     refine nm_ ?_
     intro w58 hw
     have HC_w58 : Hid (Crs w58 g):=hd_ (by rw [hw];exact ((((((((HC_w57.out).set (by have:=HLE.out;omega)).set (by have:=HLE.out;omega)).set (by have:=HLE.out;omega)).set (by have:=HLE.out;omega)).set (by have:=HLE.out;omega)).set (by have:=HLE.out;omega)).set (by have:=HLE.out;omega)).set (by have:=HLE.out;omega))
     have HG_w58 : Hid (w.grownBy w58 (some g)):=hd_ (by rw [hw];exact zqc (zqc (zqc (zqc (zqc (zqc (zqc (zqc (HG_w57.out) HLE.out _ _) HLE.out _ _) HLE.out _ _) HLE.out _ _) HLE.out _ _) HLE.out _ _) HLE.out _ _) HLE.out _ _)
     have HE_w58 : Hid (Hx w58 EB #[.int .i64 5,.int .i64 (1 + b),.int .i64 (1 + c),.int .i64 (1 + (1 + c) % 3),.int .i64 (1 + e),.int .i64 0,.bool (f == 0)] 64):=hd_ (by rw [hw];exact zqa (zqa (zqa (zqa (zqa (zqa (zqa (zqa (HE_w57.out)))))))))
     have OS_w58 : Hid (Ow w58 w.heap.size 64 7 (.slice A L.length cp) (L.map Event.cells)):=hd_ (by rw [hw];exact ((((((((OS_w57.out).apart HASE.out).apart HASE.out).apart HASE.out).apart HASE.out).apart HASE.out).apart HASE.out).apart HASE.out).apart HASE.out)
     clear hw
     clear E0 E1 E2 E3 E4 E5 E6 Ef Ez
     obtain ⟨E0,E1,E2,E3,E4,E5,E6,Ef,Ez⟩:=box7_ HE_w58.out
     go_wp2_with (at_builtin;refine Stop.go ?_)
     refine Stop.on ?_
     refine zjd (fun w59 hw => ?_)
     have HC_w59 : Hid (Crs w59 g):=hd_ (by rw [hw];exact (HC_w58.out).alloc _)
     have HG_w59 : Hid (w.grownBy w59 (some g)):=hd_ (by rw [hw];exact zxf (HG_w58.out) _)
     have HE_w59 : Hid (Hx w59 EB #[.int .i64 5,.int .i64 (1 + b),.int .i64 (1 + c),.int .i64 (1 + (1 + c) % 3),.int .i64 (1 + e),.int .i64 0,.bool (f == 0)] 64):=hd_ (by rw [hw];exact zqg (by have:=(gz_ HE_w58.out).1;first | omega | (simp;omega)) (HE_w58.out))
     have OS_w59 : Hid (Ow w59 w.heap.size 64 7 (.slice A L.length cp) (L.map Event.cells)):=hd_ (by rw [hw];exact (OS_w58.out).alloc _)
     have HX : Hid (w59.heap[w58.heap.size]? = some (.cells #[.int .i64 5,.int .i64 (1 + b),.int .i64 (1 + c),.int .i64 (1 + (1 + c) % 3),.int .i64 (1 + e),.int .i64 0,.bool (f == 0)] 64 (0,0))):=hd_ (by rw [hw];exact zqm (by first | rfl | (simp;done)))
     have hbz:=HG_w59.out.size
     clear hw
     clear E0 E1 E2 E3 E4 E5 E6 Ef Ez
     refine zqr rfl _ _ _ rfl w.heap.size 64 i0 _ 7 56 Tryz.underlying26 HI0.out HI1.out HI2.out HI3.out rfl (by decide) (.slice A L.length cp) _ rfl OS_w59.out w58.heap.size 1 [.int .i64 5,.int .i64 (1 + b),.int .i64 (1 + c),.int .i64 (1 + (1 + c) % 3),.int .i64 (1 + e),.int .i64 0,.bool (f == 0)] 64 (by rfl) HX.out rfl (by simp [Value.oneCell']) (by rw [List.length_map];omega) (by decide) hbz ?_
     intro g2 cap2 x2 how2 hgr2 hat2 hlt2
     have hcn : Crs x2 g:=HC_w59.out.grown hgr2 (fun k9 e9 => by have:=(OS_w59.out.block k9 e9).1;omega)
     have hgn : w.grownBy x2 (some g):=zjr HG_w59.out OS_w59.out hgr2
     rw [List.length_map] at how2 ⊢
     clear hgr2 hat2
     go_wp2_with fail
     go_roundw
     case rel => exact ⟨N - 1,L ++ [⟨5,(1 + b),(1 + c),(1 + (1 + c) % 3),(1 + e),0,(f == 0)⟩],some ⟨g2,0,none⟩,cap2,by omega,by omega,by go_num,by rw [List.length_append];rfl,by rw [List.length_append,List.length_singleton];omega,hd_ (by rw [List.map_append,List.length_append];exact how2),hd_ hcn,hd_ hgn⟩
     case measure => simp [intOf];omega
   ·
    obtain rfl : N = 0:=by omega
    go_wp2_with fail
    go_ret
    exact ⟨L,A,cp,rfl,by omega,OS_wr.out,HC_wr.out,HG_wr.out⟩
 ·
  go_wp2_with fail
  refine (zqp g 5 _ HC_w5.out (by first | decide | omega) (by first | decide | omega)).mono ?_
  rintro e' w6 ⟨s,s1,s2,rfl,hcn,hg⟩
  have HC_w6:=hd_ hcn
  have HG_w6:=hd_ (zql HG_w5.out hg)
  have OS_w6:=hd_ (OS_w5.out.pastL hg hgw)
  clear hcn hg
  obtain ⟨n,rfl⟩:=Int.eq_ofNat_of_zero_le s1
  go_wp2_with fail
  have hsh:=Ow.shorter (A:=some ⟨G,0,none⟩) (cp:=5) (rows:=es.map Event.cells) (m:=n) (by rw [List.length_map,HEL.out];exact OS_w6.out) (by rw [List.length_map,HEL.out];omega)
  have hel2 : (es.take n).length = n:=by rw [List.length_take,HEL.out];omega
  rw [← List.map_take] at hsh
  have HE2:=hd_ hel2
  clear OS_w6 hel2
  have OS_w6:=hd_ hsh
  clear hsh
  refine (zqp g (most + 1) _ HC_w6.out (by first | decide | omega) (by first | decide | omega)).mono ?_
  rintro e' w7 ⟨m,m1,m2,rfl,hcn,hg⟩
  have HC_w7:=hd_ hcn
  have HG_w7:=hd_ (zql HG_w6.out hg)
  have OS_w7:=hd_ (OS_w6.out.pastL hg hgw)
  clear hcn hg
  go_wp2_with fail
  go_loopw [5,6] (fun vl vn wr => ∃ (N : Int) (L : List Event) (A : Option Addr) (cp : Nat),0 ≤ N∧N ≤ 100∧vn = .int .i64 N∧vl = .slice A L.length cp∧(L.length : Int) + N ≤ 105∧Hid (Ow wr w.heap.size 64 7 (.slice A L.length cp) (L.map Event.cells))∧Hid (Crs wr g)∧Hid (w.grownBy wr (some g))) (fun _ vn _ => (intOf vn).toNat)
  case atStart => exact ⟨m,es.take n,some ⟨G,0,none⟩,5,m1,by omega,rfl,by rw [HE2.out],by rw [HE2.out];omega,hd_ (by rw [HE2.out];exact OS_w7.out),HC_w7,HG_w7⟩
  case round =>
   clear OS_w7 HC_w7 HG_w7
   obtain ⟨N,L,A,cp,n1,n2,rfl,rfl,hLN,OS_wr,HC_wr,HG_wr⟩:=hrel
   have hgz:=HG_wr.out.size
   by_cases hlt : 0 < N
   ·
    go_wp2_with fail
    refine (ztg g _ HC_wr.out).mono ?_
    rintro e' w51 ⟨ev,rfl,hcn,hg⟩
    have HC_w51:=hd_ hcn
    have HG_w51:=hd_ (zql HG_wr.out hg)
    have OS_w51:=hd_ (OS_wr.out.pastL hg hgw)
    clear hcn hg
    go_wp2_with fail
    refine nm_ ?_
    intro w52 hw
    have HC_w52 : Hid (Crs w52 g):=hd_ (by rw [hw];exact (HC_w51.out).alloc _)
    have HG_w52 : Hid (w.grownBy w52 (some g)):=hd_ (by rw [hw];exact zxf (HG_w51.out) _)
    have OS_w52 : Hid (Ow w52 w.heap.size 64 7 (.slice A L.length cp) (L.map Event.cells)):=hd_ (by rw [hw];exact (OS_w51.out).alloc _)
    obtain ⟨EB,h9E⟩ : ∃ v,v = w51.heap.size:=⟨_,rfl⟩
    have HE_w52 : Hid (Hx w52 EB (evC ev) 64):=hd_ (by rw [hw,h9E];exact zqm (by first | rfl | (simp;done)))
    have HLE : Hid (w.heap.size ≤ EB):=hd_ (by have:=HG_w51.out.size;omega)
    have HASE : Hid (∀ k,(.slice A L.length cp : Value).ownBlock = some k → k ≠ EB):=hd_ (fun k9 e9 => by have:=(OS_w51.out.block k9 e9).2;omega)
    try rw [← h9E]
    clear hw h9E
    obtain ⟨E0,E1,E2,E3,E4,E5,E6,Ef,Ez⟩:=box7_ HE_w52.out
    refine (zqp g 3 _ HC_w52.out (by first | decide | omega) (by first | decide | omega)).mono ?_
    rintro e' w53 ⟨a,a1,a2,rfl,hcn,hg⟩
    have HC_w53:=hd_ hcn
    have HG_w53:=hd_ (zql HG_w52.out hg)
    have HE_w53:=hd_ (zqd hg (zqy (by have:=HLE.out;omega)) HE_w52.out)
    have OS_w53:=hd_ (OS_w52.out.pastL hg hgw)
    clear hcn hg
    clear E0 E1 E2 E3 E4 E5 E6 Ef Ez
    obtain ⟨E0,E1,E2,E3,E4,E5,E6,Ef,Ez⟩:=box7_ HE_w53.out
    cases ta : (a == 0)
    ·
     go_wp2_with (at_builtin;refine Stop.go ?_)
     refine Stop.on ?_
     refine zjd (fun w54 hw => ?_)
     have HC_w54 : Hid (Crs w54 g):=hd_ (by rw [hw];exact (HC_w53.out).alloc _)
     have HG_w54 : Hid (w.grownBy w54 (some g)):=hd_ (by rw [hw];exact zxf (HG_w53.out) _)
     have HE_w54 : Hid (Hx w54 EB (evC ev) 64):=hd_ (by rw [hw];exact zqg (by have:=(gz_ HE_w53.out).1;first | omega | (simp;omega)) (HE_w53.out))
     have OS_w54 : Hid (Ow w54 w.heap.size 64 7 (.slice A L.length cp) (L.map Event.cells)):=hd_ (by rw [hw];exact (OS_w53.out).alloc _)
     have HX : Hid (w54.heap[w53.heap.size]? = some (.cells (evC ev) 64 (0,0))):=hd_ (by rw [hw];exact zqm (by first | rfl | (simp;done)))
     have hbz:=HG_w54.out.size
     clear hw
     clear E0 E1 E2 E3 E4 E5 E6 Ef Ez
     refine zqr rfl _ _ _ rfl w.heap.size 64 i0 _ 7 56 Tryz.underlying26 HI0.out HI1.out HI2.out HI3.out rfl (by decide) (.slice A L.length cp) _ rfl OS_w54.out w53.heap.size 1 [.int .i64 ev.Kind,.int .i64 ev.Key,.int .i64 ev.Ch,.int .i64 ev.To,.int .i64 ev.Amt,.int .i64 ev.Fee,.bool ev.Yes] 64 (by rfl) HX.out rfl (by simp [Value.oneCell']) (by rw [List.length_map];omega) (by decide) hbz ?_
     intro g2 cap2 x2 how2 hgr2 hat2 hlt2
     have hcn : Crs x2 g:=HC_w54.out.grown hgr2 (fun k9 e9 => by have:=(OS_w54.out.block k9 e9).1;omega)
     have hgn : w.grownBy x2 (some g):=zjr HG_w54.out OS_w54.out hgr2
     rw [List.length_map] at how2 ⊢
     clear hgr2 hat2
     go_wp2_with fail
     go_roundw
     case rel => exact ⟨N - 1,L ++ [⟨ev.Kind,ev.Key,ev.Ch,ev.To,ev.Amt,ev.Fee,ev.Yes⟩],some ⟨g2,0,none⟩,cap2,by omega,by omega,by go_num,by rw [List.length_append];rfl,by rw [List.length_append,List.length_singleton];omega,hd_ (by rw [List.map_append,List.length_append];exact how2),hd_ hcn,hd_ hgn⟩
     case measure => simp [intOf];omega
    ·
     go_wp2_with fail
     refine (zqp g 6 _ HC_w53.out (by first | decide | omega) (by first | decide | omega)).mono ?_
     rintro e' w54 ⟨b,b1,b2,rfl,hcn,hg⟩
     have HC_w54:=hd_ hcn
     have HG_w54:=hd_ (zql HG_w53.out hg)
     have HE_w54:=hd_ (zqd hg (zqy (by have:=HLE.out;omega)) HE_w53.out)
     have OS_w54:=hd_ (OS_w53.out.pastL hg hgw)
     clear hcn hg
     clear E0 E1 E2 E3 E4 E5 E6 Ef Ez
     obtain ⟨E0,E1,E2,E3,E4,E5,E6,Ef,Ez⟩:=box7_ HE_w54.out
     go_wp2_with fail
     refine (zqp g 3 _ HC_w54.out (by first | decide | omega) (by first | decide | omega)).mono ?_
     rintro e' w55 ⟨c,c1,c2,rfl,hcn,hg⟩
     have HC_w55:=hd_ hcn
     have HG_w55:=hd_ (zql HG_w54.out hg)
     have HE_w55:=hd_ (zqd hg (zqy (by have:=HLE.out;omega)) HE_w54.out)
     have OS_w55:=hd_ (OS_w54.out.pastL hg hgw)
     clear hcn hg
     clear E0 E1 E2 E3 E4 E5 E6 Ef Ez
     obtain ⟨E0,E1,E2,E3,E4,E5,E6,Ef,Ez⟩:=box7_ HE_w55.out
     go_wp2_with fail
     refine (zqp g 5000 _ HC_w55.out (by first | decide | omega) (by first | decide | omega)).mono ?_
     rintro e' w56 ⟨e,e1,e2,rfl,hcn,hg⟩
     have HC_w56:=hd_ hcn
     have HG_w56:=hd_ (zql HG_w55.out hg)
     have HE_w56:=hd_ (zqd hg (zqy (by have:=HLE.out;omega)) HE_w55.out)
     have OS_w56:=hd_ (OS_w55.out.pastL hg hgw)
     clear hcn hg
     clear E0 E1 E2 E3 E4 E5 E6 Ef Ez
     obtain ⟨E0,E1,E2,E3,E4,E5,E6,Ef,Ez⟩:=box7_ HE_w56.out
     go_wp2_with fail
     refine (zqp g 2 _ HC_w56.out (by first | decide | omega) (by first | decide | omega)).mono ?_
     rintro e' w57 ⟨f,f1,f2,rfl,hcn,hg⟩
     have HC_w57:=hd_ hcn
     have HG_w57:=hd_ (zql HG_w56.out hg)
     have HE_w57:=hd_ (zqd hg (zqy (by have:=HLE.out;omega)) HE_w56.out)
     have OS_w57:=hd_ (OS_w56.out.pastL hg hgw)
     clear hcn hg
     clear E0 E1 E2 E3 E4 E5 E6 Ef Ez
     obtain ⟨E0,E1,E2,E3,E4,E5,E6,Ef,Ez⟩:=box7_ HE_w57.out
     go_upto_region 11 with fail
     refine nm_ ?_
     intro w58 hw
     have HC_w58 : Hid (Crs w58 g):=hd_ (by rw [hw];exact ((((((((HC_w57.out).set (by have:=HLE.out;omega)).set (by have:=HLE.out;omega)).set (by have:=HLE.out;omega)).set (by have:=HLE.out;omega)).set (by have:=HLE.out;omega)).set (by have:=HLE.out;omega)).set (by have:=HLE.out;omega)).set (by have:=HLE.out;omega))
     have HG_w58 : Hid (w.grownBy w58 (some g)):=hd_ (by rw [hw];exact zqc (zqc (zqc (zqc (zqc (zqc (zqc (zqc (HG_w57.out) HLE.out _ _) HLE.out _ _) HLE.out _ _) HLE.out _ _) HLE.out _ _) HLE.out _ _) HLE.out _ _) HLE.out _ _)
     have HE_w58 : Hid (Hx w58 EB #[.int .i64 5,.int .i64 (1 + b),.int .i64 (1 + c),.int .i64 (1 + (1 + c) % 3),.int .i64 (1 + e),.int .i64 0,.bool (f == 0)] 64):=hd_ (by rw [hw];exact zqa (zqa (zqa (zqa (zqa (zqa (zqa (zqa (HE_w57.out)))))))))
     have OS_w58 : Hid (Ow w58 w.heap.size 64 7 (.slice A L.length cp) (L.map Event.cells)):=hd_ (by rw [hw];exact ((((((((OS_w57.out).apart HASE.out).apart HASE.out).apart HASE.out).apart HASE.out).apart HASE.out).apart HASE.out).apart HASE.out).apart HASE.out)
     clear hw
     clear E0 E1 E2 E3 E4 E5 E6 Ef Ez
     obtain ⟨E0,E1,E2,E3,E4,E5,E6,Ef,Ez⟩:=box7_ HE_w58.out
     go_wp2_with (at_builtin;refine Stop.go ?_)
     refine Stop.on ?_
     refine zjd (fun w59 hw => ?_)
     have HC_w59 : Hid (Crs w59 g):=hd_ (by rw [hw];exact (HC_w58.out).alloc _)
     have HG_w59 : Hid (w.grownBy w59 (some g)):=hd_ (by rw [hw];exact zxf (HG_w58.out) _)
     have HE_w59 : Hid (Hx w59 EB #[.int .i64 5,.int .i64 (1 + b),.int .i64 (1 + c),.int .i64 (1 + (1 + c) % 3),.int .i64 (1 + e),.int .i64 0,.bool (f == 0)] 64):=hd_ (by rw [hw];exact zqg (by have:=(gz_ HE_w58.out).1;first | omega | (simp;omega)) (HE_w58.out))
     have OS_w59 : Hid (Ow w59 w.heap.size 64 7 (.slice A L.length cp) (L.map Event.cells)):=hd_ (by rw [hw];exact (OS_w58.out).alloc _)
     have HX : Hid (w59.heap[w58.heap.size]? = some (.cells #[.int .i64 5,.int .i64 (1 + b),.int .i64 (1 + c),.int .i64 (1 + (1 + c) % 3),.int .i64 (1 + e),.int .i64 0,.bool (f == 0)] 64 (0,0))):=hd_ (by rw [hw];exact zqm (by first | rfl | (simp;done)))
     have hbz:=HG_w59.out.size
     clear hw
     clear E0 E1 E2 E3 E4 E5 E6 Ef Ez
     refine zqr rfl _ _ _ rfl w.heap.size 64 i0 _ 7 56 Tryz.underlying26 HI0.out HI1.out HI2.out HI3.out rfl (by decide) (.slice A L.length cp) _ rfl OS_w59.out w58.heap.size 1 [.int .i64 5,.int .i64 (1 + b),.int .i64 (1 + c),.int .i64 (1 + (1 + c) % 3),.int .i64 (1 + e),.int .i64 0,.bool (f == 0)] 64 (by rfl) HX.out rfl (by simp [Value.oneCell']) (by rw [List.length_map];omega) (by decide) hbz ?_
     intro g2 cap2 x2 how2 hgr2 hat2 hlt2
     have hcn : Crs x2 g:=HC_w59.out.grown hgr2 (fun k9 e9 => by have:=(OS_w59.out.block k9 e9).1;omega)
     have hgn : w.grownBy x2 (some g):=zjr HG_w59.out OS_w59.out hgr2
     rw [List.length_map] at how2 ⊢
     clear hgr2 hat2
     go_wp2_with fail
     go_roundw
     case rel => exact ⟨N - 1,L ++ [⟨5,(1 + b),(1 + c),(1 + (1 + c) % 3),(1 + e),0,(f == 0)⟩],some ⟨g2,0,none⟩,cap2,by omega,by omega,by go_num,by rw [List.length_append];rfl,by rw [List.length_append,List.length_singleton];omega,hd_ (by rw [List.map_append,List.length_append];exact how2),hd_ hcn,hd_ hgn⟩
     case measure => simp [intOf];omega
   ·
    obtain rfl : N = 0:=by omega
    go_wp2_with fail
    go_ret
    exact ⟨L,A,cp,rfl,by omega,OS_wr.out,HC_wr.out,HG_wr.out⟩
end Go.Proofs.YtdbmkfmenfcbiaaGreat

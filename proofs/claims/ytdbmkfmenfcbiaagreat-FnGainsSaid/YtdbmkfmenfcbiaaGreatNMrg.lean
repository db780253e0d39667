/- Lines merged: the program's walk. -/
import Derived.Test.YtdbmkfmenfcbiaaGreatRows
import Derived.Test.YtdbmkfmenfcbiaaGreatNM2
import Derived.Test.YtdbmkfmenfcbiaaGreatNM1
import Derived.RegionTactic
import Derived.IntWalk
namespace Go.Proofs.YtdbmkfmenfcbiaaGreat
open Go.RowKit
def lenM : Value → Nat
 | .slice _ n _ => n
 | _ => 0
theorem Rd.tail {w : World} {B b off : Nat} {x : Line} {l : List Line} (h : Rd w B 3 (some ⟨b,off,none⟩) ((x :: l).map Line.cells)) (A : Option Addr) (hA : 0 < l.length → A = some ⟨b,off + 3,none⟩) : Rd w B 3 A (l.map Line.cells):=by
 refine ⟨Line.uni l,fun hn => ?_⟩
 rw [List.length_map] at hn
 obtain ⟨b',off',e,hb,hc⟩:=h.2 (by simp)
 injection e with e
 injection e with e1 e2
 subst e1 e2
 refine ⟨b,off + 3,hA hn,hb,fun i r j v h1 h2 => ?_⟩
 have:=hc (i + 1) r j v (by simpa using h1) h2
 rw [Nat.succ_mul] at this
 rw [show off + 3 + i * 3 + j = off + (i * 3 + 3) + j by omega]
 exact this
theorem Rd.head {w : World} {B : Nat} {A : Option Addr} {x : Line} {l : List Line} (h : Rd w B 3 A ((x :: l).map Line.cells)) : ∃ b off,A = some ⟨b,off,none⟩∧b < B∧w.cell? ⟨b,off,none⟩ = some (.int .i64 x.Kind)∧w.cell? ⟨b,off + 1,none⟩ = some (.int .i64 x.Ch)∧w.cell? ⟨b,off + 2,none⟩ = some (.int .i64 x.Amt):=by
 obtain ⟨b,off,e,hb,c0,c1,c2⟩:=Line.rd h (k:=0) (by simp)
 rw [Nat.zero_mul] at c0 c1 c2
 exact ⟨b,off,e,hb,c0,c1,c2⟩
theorem zsa {o : List Line} {x : Line} {r : Option (List Line)} : (r.map (x :: ·)).map (o ++ ·) = r.map ((o ++ [x]) ++ ·):=by
 cases r <;> simp
def MrgPost (w : World) (r : Option (List Line)) (e : Ending) (w' : World) : Prop :=
 ∃ (o : List Line) (A : Option Addr) (cap : Nat),e = .returned (.tuple #[.slice A o.length cap,.bool r.isSome])∧(∀ x,r = some x → o = x)∧Ow w' w.heap.size 99 3 (.slice A o.length cap) (o.map Line.cells)∧Below w.heap.size w w'
theorem info_LineM : (Tryz.prog.info? 99).map (fun i => (i.zero,i.size,i.bytes)) = some (some (.agg #[.int .i64 0,.int .i64 0,.int .i64 0]),3,24):=by kernel_rfl
set_option maxRecDepth 100000 in
set_option maxHeartbeats 4000000 in
theorem i_merged (a b : List Line) (A0 B0 : Option Addr) (ca0 cb0 : Nat) (w : World) (hl : a.length + b.length ≤ 1048576) (hca : a.length ≤ ca0) (hcb : b.length ≤ cb0) (hla : ∀ x ∈ a,-1125899906842624 ≤ x.Amt∧x.Amt ≤ 1125899906842624) (hlb : ∀ x ∈ b,-1125899906842624 ≤ x.Amt∧x.Amt ≤ 1125899906842624)
  (hra : Rd w w.heap.size 3 A0 (a.map Line.cells)) (hrb : Rd w w.heap.size 3 B0 (b.map Line.cells)) :
  Calls Tryz.prog 100 #[.slice A0 a.length ca0,.slice B0 b.length cb0] w (MrgPost w (mergeF a b)):=by
 obtain ⟨i0,hi,hz0,hz1,hz2⟩:=info_parts info_LineM
 have HI:=hd_ hi
 have HZ0:=hd_ hz0
 have HZ1:=hd_ hz1
 have HZ2:=hd_ hz2
 have HRA:=hd_ hra
 have HRB:=hd_ hrb
 have HLA:=hd_ hla
 have HLB:=hd_ hlb
 clear hi hz0 hz1 hz2 hra hrb hla hlb
 go_enter Tryz.func100,Tryz.ntmps100
 go_wp2_with fail
 go_loopw [0,1,6] (fun va vb vo wr => ∃ (a' b' o : List Line) (A B C : Option Addr) (ca cb cc : Nat),va = .slice A a'.length ca∧vb = .slice B b'.length cb∧vo = .slice C o.length cc∧(o.length + a'.length + b'.length ≤ a.length + b.length∧a'.length ≤ ca∧b'.length ≤ cb)∧Hid (mergeF a b = (mergeF a' b').map (o ++ ·)) ∧
  Hid ((∀ x ∈ a',-1125899906842624 ≤ x.Amt∧x.Amt ≤ 1125899906842624)∧∀ x ∈ b',-1125899906842624 ≤ x.Amt∧x.Amt ≤ 1125899906842624)∧Rd w w.heap.size 3 A (a'.map Line.cells)∧Rd w w.heap.size 3 B (b'.map Line.cells)∧Ow wr w.heap.size 99 3 (.slice C o.length cc) (o.map Line.cells)∧Below w.heap.size w wr) (fun va vb _ _ => lenM va + lenM vb)
 case atStart => exact ⟨a,b,[],A0,B0,none,ca0,cb0,0,rfl,rfl,rfl,⟨by simp,hca,hcb⟩,hd_ (by cases mergeF a b <;> rfl),hd_ ⟨HLA.out,HLB.out⟩,HRA.out,HRB.out,Ow.nil_,Below.refl _ _⟩
 case round =>
  obtain ⟨a',b',o,A,B,C,ca,cb,cc,rfl,rfl,rfl,⟨hol,hca1,hcb1⟩,HE,HR,hra,hrb,how,hbw⟩:=hrel
  have hbz:=hbw.size
  have HRA1:=hd_ hra
  have HRB1:=hd_ hrb
  have HW:=hd_ how
  clear hra hrb
  have OB:=hd_ how.block
  clear how
  have KB:=hd_ (fun (W : World) (hW : Below wr.heap.size wr W) o1 (w6 : World) (hgr : (W.alloc o1).grownBy w6 (Value.slice C o.length cc).ownBlock) => show Below w.heap.size w w6 from ((hbw.trans (hW.mono hbz)).alloc (by have:=hW.size;omega) o1).grown hgr (by have:=hW.size;simp;omega) (fun k e => by have:=(OB.out k e).1;omega))
  rcases a' with _ | ⟨x,a2⟩
  ·
   rcases b' with _ | ⟨y,b2⟩
   ·
    have HE2:=hd_ (show mergeF a b = some o by rw [HE.out,mergeF];simp)
    rw [show ([] : List Line).length = 0 from rfl]
    go_wp2_with fail
    go_ret2
    exact ⟨o,C,cc,by rw [HE2.out];rfl,fun x hx => by rw [HE2.out] at hx;exact Option.some.inj hx,HW.out,hbw⟩
   have HE2:=hd_ (show mergeF a b = (mergeF [] b2).map ((o ++ [y]) ++ ·) by rw [HE.out,mergeF,zsa])
   obtain ⟨q,offb,rfl,hpB,d0,d1,d2⟩:=(HRB1.out.below hbw).head
   clear d0 d1 d2
   rw [show ([] : List Line).length = 0 from rfl,show (y :: b2).length = b2.length + 1 from rfl]
   simp only [List.length_cons,List.length_nil] at hol hcb1
   have t1 : decide ((0 : Int) < ((b2.length + 1 : Nat) : Int)) = true:=decide_eq_true (by omega)
   have t2 : decide ((0 : Int) < ((b2.length : Nat) : Int) + 1) = true:=decide_eq_true (by omega)
   have t3 : (((b2.length : Nat) : Int) + 1 == 0) = false:=by simp;omega
   go_wp2_with fail
   refine zxb (by kernel_rfl) (by kernel_rfl) ?_
   repeat (first | (refine zqk rfl ?_;intro K hK;go_simp;refine hK _ ?_;clear hK K) | (refine zqj ?_ rfl ?_ ?_;rotate_left;(focus (intro w2 hw2;go_simp;rfl));intro K hK;go_simp;refine hK _ ?_;clear hK K))
   refine zxh ?_;intro w9 hb9
   have hC : Below wr.heap.size wr w9:=(((Below.refl wr.heap.size wr).drew).trans hb9)
   obtain ⟨wc,rfl⟩ : ∃ wc : World,wc = w9:=⟨_,rfl⟩
   clear hb9
   go_wp2_with fail
   refine zxb (by kernel_rfl) (by kernel_rfl) ?_
   repeat (first | (refine zqk rfl ?_;intro K hK;go_simp;refine hK _ ?_;clear hK K) | (refine zqj ?_ rfl ?_ ?_;rotate_left;(focus (intro w2 hw2;go_simp;rfl));intro K hK;go_simp;refine hK _ ?_;clear hK K))
   refine zxh ?_;intro w9 hb9
   have hD : Below wr.heap.size wr w9:=hC.trans (Below.mono (((Below.refl _ _).drew).trans hb9) hC.size)
   obtain ⟨q9,offb9,eB,hqB9,d0,d1,d2⟩:=(HRB1.out.below (hbw.trans (Below.mono hD hbz))).head
   injection eB with eB;injection eB with eB1 eB2;subst eB1 eB2
   go_wp2_with (at_builtin;refine zqz rfl _ _ _ rfl w.heap.size 99 i0 _ 3 24 Tryz.underlying45 HI HZ0 HZ1 HZ2 rfl (by decide) (.slice C o.length cc) (o.map Line.cells) rfl ((HW.out.below hD).alloc _) w9.heap.size 1 [.int .i64 y.Kind,.int .i64 y.Ch,.int .i64 y.Amt] 99 rfl (zqi (by first | rfl | (simp;done))) rfl (by simp [Value.oneCell']) (by rw [List.length_map];omega) (by decide) (by have:=Below.size hD;(try simp at this);simp;omega) ?_;intro g6 cap6 w6 how6 hgr6 hat6 hlt6;rw [List.length_map] at how6;rw [List.length_map];have hb6:=KB.out w9 hD _ _ hgr6;have O6:=hd_ how6;clear how6 hgr6 hat6)
   go_roundw
   case rel =>
    refine ⟨[],b2,o ++ [y],_,_,some ⟨g6,0,none⟩,_,_,cap6,rfl,rfl,by rw [List.length_append];rfl,⟨by (first | omega | (simp;omega) | (simp;done)),by first | exact hca1 | (first | omega | (simp;omega) | (simp;done)),by omega⟩,hd_ HE2.out,hd_ ⟨HR.out.1,fun z hz => HR.out.2 z (by simp [hz])⟩,HRA1.out,HRB1.out.tail _ (fun hn => by have h1 : ¬ cb = 1:=(by omega);simp [h1]),?_,hb6⟩
    rw [List.map_append,List.length_append]
    exact O6.out
   case measure => simp only [lenM];omega
  rcases b' with _ | ⟨y,b2⟩
  ·
   have HE2:=hd_ (show mergeF a b = (mergeF a2 []).map ((o ++ [x]) ++ ·) by rw [HE.out,mergeF,zsa])
   obtain ⟨p,off,rfl,hpB,c0,c1,c2⟩:=(HRA1.out.below hbw).head
   clear c0 c1 c2
   rw [show ([] : List Line).length = 0 from rfl,show (x :: a2).length = a2.length + 1 from rfl]
   simp only [List.length_cons,List.length_nil] at hol hca1
   have t1 : decide ((0 : Int) < ((a2.length + 1 : Nat) : Int)) = true:=decide_eq_true (by omega)
   go_wp2_with fail
   refine zxb (by kernel_rfl) (by kernel_rfl) ?_
   repeat (first | (refine zqk rfl ?_;intro K hK;go_simp;refine hK _ ?_;clear hK K) | (refine zqj ?_ rfl ?_ ?_;rotate_left;(focus (intro w2 hw2;go_simp;rfl));intro K hK;go_simp;refine hK _ ?_;clear hK K))
   refine zxh ?_;intro w9 hb9
   have hD : Below wr.heap.size wr w9:=(((Below.refl wr.heap.size wr).drew).trans hb9)
   obtain ⟨p9,off9,eA,hpB9,c0,c1,c2⟩:=(HRA1.out.below (hbw.trans (Below.mono hD hbz))).head
   injection eA with eA;injection eA with eA1 eA2;subst eA1 eA2
   go_wp2_with (at_builtin;refine zqz rfl _ _ _ rfl w.heap.size 99 i0 _ 3 24 Tryz.underlying45 HI HZ0 HZ1 HZ2 rfl (by decide) (.slice C o.length cc) (o.map Line.cells) rfl ((HW.out.below hD).alloc _) w9.heap.size 1 [.int .i64 x.Kind,.int .i64 x.Ch,.int .i64 x.Amt] 99 rfl (zqi (by first | rfl | (simp;done))) rfl (by simp [Value.oneCell']) (by rw [List.length_map];omega) (by decide) (by have:=Below.size hD;(try simp at this);simp;omega) ?_;intro g6 cap6 w6 how6 hgr6 hat6 hlt6;rw [List.length_map] at how6;rw [List.length_map];have hb6:=KB.out w9 hD _ _ hgr6;have O6:=hd_ how6;clear how6 hgr6 hat6)
   go_roundw
   case rel =>
    refine ⟨a2,[],o ++ [x],_,_,some ⟨g6,0,none⟩,_,_,cap6,rfl,rfl,by rw [List.length_append];rfl,⟨by (first | omega | (simp;omega) | (simp;done)),by omega,by first | exact hcb1 | (first | omega | (simp;omega) | (simp;done))⟩,hd_ HE2.out,hd_ ⟨fun z hz => HR.out.1 z (by simp [hz]),HR.out.2⟩,HRA1.out.tail _ (fun hn => by have h1 : ¬ ca = 1:=(by omega);simp [h1]),HRB1.out,?_,hb6⟩
    rw [List.map_append,List.length_append]
    exact O6.out
   case measure => simp only [lenM];omega
  obtain ⟨p,off,rfl,hpB,c0,c1,c2⟩:=(HRA1.out.below hbw).head
  obtain ⟨q,offb,rfl,hqB,d0,d1,d2⟩:=(HRB1.out.below hbw).head
  clear c0 c1 c2 d0 d1 d2
  rw [show (y :: b2).length = b2.length + 1 from rfl,show (x :: a2).length = a2.length + 1 from rfl]
  simp only [List.length_cons] at hol hca1 hcb1
  have t1 : decide ((0 : Int) < ((a2.length + 1 : Nat) : Int)) = true:=decide_eq_true (by omega)
  have t2 : decide ((0 : Int) < ((a2.length : Nat) : Int) + 1) = true:=decide_eq_true (by omega)
  have t3 : (((b2.length : Nat) : Int) + 1 == 0) = false:=by simp;omega
  have t4 : (((a2.length : Nat) : Int) + 1 == 0) = false:=by simp;omega
  have i1 : (0 : Int) < (a2.length : Int) + 1:=by omega
  have i2 : (0 : Int) < (b2.length : Int) + 1:=by omega
  have HK : Hid (∀ w2,Above wr.drew w2 → w2.cell? ⟨p,off,none⟩ = some (.int .i64 x.Kind)∧w2.cell? ⟨p,off + 1,none⟩ = some (.int .i64 x.Ch)∧w2.cell? ⟨q,offb,none⟩ = some (.int .i64 y.Kind)∧w2.cell? ⟨q,offb + 1,none⟩ = some (.int .i64 y.Ch)):=hd_ (fun w2 hw2 => by
   have hb1 : Below wr.heap.size wr w2:=((Below.refl _ _).drew).trans hw2
   have hb2 : Below wr.heap.size wr w2:=Below.trans (Below.refl wr.heap.size wr) (hb1.mono (Below.size (Below.refl wr.heap.size wr)))
   obtain ⟨_,_,eA,_,x0,x1,_⟩:=(HRA1.out.below (hbw.trans (Below.mono hb2 hbz))).head
   obtain ⟨_,_,eB,_,y0,y1,_⟩:=(HRB1.out.below (hbw.trans (Below.mono hb2 hbz))).head
   injection eA with eA;injection eA with eA1 eA2;subst eA1 eA2
   injection eB with eB;injection eB with eB1 eB2;subst eB1 eB2
   exact ⟨x0,x1,y0,y1⟩)
  obtain ⟨bl,hbl⟩ : ∃ bl,lessB x.Kind x.Ch y.Kind y.Ch = bl:=⟨_,rfl⟩
  have HBL:=hd_ hbl
  clear hbl
  go_wp2_with fail
  refine zxb (by kernel_rfl) (by kernel_rfl) ?_
  repeat (first | (refine zqk rfl ?_;intro K hK;go_simp;refine hK _ ?_;clear hK K) | (refine zqj ?_ rfl ?_ ?_;rotate_left;(focus (intro w2 hw2;obtain ⟨k0,k1,k2,k3⟩:=HK.out w2 hw2;go_simp;rfl));intro K hK;go_simp;refine hK _ ?_;clear hK K))
  refine zqv 151 #[.agg #[.int .i64 x.Kind,.int .i64 x.Ch],.agg #[.int .i64 y.Kind,.int .i64 y.Ch]] (.bool bl) rfl (fun w2 hw2 => by go_simp) (fun w2 hw2 => (zhc x.Kind x.Ch y.Kind y.Ch w2).mono (fun e w3 hh => ⟨hh.1.trans (by rw [HBL.out]),hh.2⟩)) ?_
  intro K hK;go_simp;refine hK _ ?_;clear hK K
  repeat (first | (refine zqk rfl ?_;intro K hK;go_simp;refine hK _ ?_;clear hK K) | (refine zqj ?_ rfl ?_ ?_;rotate_left;(focus (intro w2 hw2;obtain ⟨k0,k1,k2,k3⟩:=HK.out w2 hw2;go_simp;rfl));intro K hK;go_simp;refine hK _ ?_;clear hK K))
  refine zxh ?_;intro w9 hb9
  have hC : Below wr.heap.size wr w9:=(((Below.refl wr.heap.size wr).drew).trans hb9)
  clear HK hb9
  obtain ⟨wc,rfl⟩ : ∃ wc : World,wc = w9:=⟨_,rfl⟩
  cases bl
  rotate_left
  ·
   have HE2:=hd_ (show mergeF a b = (mergeF a2 (y :: b2)).map ((o ++ [x]) ++ ·) by rw [HE.out,mergeF,if_pos HBL.out,zsa])
   obtain ⟨p9,off9,eA,hpB9,c0,c1,c2⟩:=(HRA1.out.below (hbw.trans (Below.mono hC hbz))).head
   injection eA with eA;injection eA with eA1 eA2;subst eA1 eA2
   go_wp2_with (at_builtin;refine zqz rfl _ _ _ rfl w.heap.size 99 i0 _ 3 24 Tryz.underlying45 HI HZ0 HZ1 HZ2 rfl (by decide) (.slice C o.length cc) (o.map Line.cells) rfl ((HW.out.below hC).alloc _) wc.heap.size 1 [.int .i64 x.Kind,.int .i64 x.Ch,.int .i64 x.Amt] 99 rfl (zqi (by first | rfl | (simp;done))) rfl (by simp [Value.oneCell']) (by rw [List.length_map];omega) (by decide) (by have:=Below.size hC;(try simp at this);simp;omega) ?_;intro g6 cap6 w6 how6 hgr6 hat6 hlt6;rw [List.length_map] at how6;rw [List.length_map];have hb6:=KB.out wc hC _ _ hgr6;have O6:=hd_ how6;clear how6 hgr6 hat6)
   go_roundw
   case rel =>
    refine ⟨a2,y :: b2,o ++ [x],_,_,some ⟨g6,0,none⟩,_,_,cap6,rfl,rfl,by rw [List.length_append];rfl,⟨by (first | omega | (simp;omega) | (simp;done)),by omega,by first | exact hcb1 | (first | omega | (simp;omega) | (simp;done))⟩,hd_ HE2.out,hd_ ⟨fun z hz => HR.out.1 z (by simp [hz]),HR.out.2⟩,HRA1.out.tail _ (fun hn => by have h1 : ¬ ca = 1:=(by omega);simp [h1]),HRB1.out,?_,hb6⟩
    rw [List.map_append,List.length_append]
    exact O6.out
   case measure => simp only [lenM];omega
  obtain ⟨bm,hbm⟩ : ∃ bm,lessB y.Kind y.Ch x.Kind x.Ch = bm:=⟨_,rfl⟩
  have HBM:=hd_ hbm
  clear hbm
  have HK : Hid (∀ w2,Above wc.drew w2 → w2.cell? ⟨p,off,none⟩ = some (.int .i64 x.Kind)∧w2.cell? ⟨p,off + 1,none⟩ = some (.int .i64 x.Ch)∧w2.cell? ⟨q,offb,none⟩ = some (.int .i64 y.Kind)∧w2.cell? ⟨q,offb + 1,none⟩ = some (.int .i64 y.Ch)):=hd_ (fun w2 hw2 => by
   have hb1 : Below wc.heap.size wc w2:=((Below.refl _ _).drew).trans hw2
   have hb2 : Below wr.heap.size wr w2:=Below.trans hC (hb1.mono (Below.size hC))
   obtain ⟨_,_,eA,_,x0,x1,_⟩:=(HRA1.out.below (hbw.trans (Below.mono hb2 hbz))).head
   obtain ⟨_,_,eB,_,y0,y1,_⟩:=(HRB1.out.below (hbw.trans (Below.mono hb2 hbz))).head
   injection eA with eA;injection eA with eA1 eA2;subst eA1 eA2
   injection eB with eB;injection eB with eB1 eB2;subst eB1 eB2
   exact ⟨x0,x1,y0,y1⟩)
  go_wp2_with fail
  refine zxb (by kernel_rfl) (by kernel_rfl) ?_
  repeat (first | (refine zqk rfl ?_;intro K hK;go_simp;refine hK _ ?_;clear hK K) | (refine zqj ?_ rfl ?_ ?_;rotate_left;(focus (intro w2 hw2;obtain ⟨k0,k1,k2,k3⟩:=HK.out w2 hw2;go_simp;rfl));intro K hK;go_simp;refine hK _ ?_;clear hK K))
  refine zqv 151 #[.agg #[.int .i64 y.Kind,.int .i64 y.Ch],.agg #[.int .i64 x.Kind,.int .i64 x.Ch]] (.bool bm) rfl (fun w2 hw2 => by go_simp) (fun w2 hw2 => (zhc y.Kind y.Ch x.Kind x.Ch w2).mono (fun e w3 hh => ⟨hh.1.trans (by rw [HBM.out]),hh.2⟩)) ?_
  intro K hK;go_simp;refine hK _ ?_;clear hK K
  repeat (first | (refine zqk rfl ?_;intro K hK;go_simp;refine hK _ ?_;clear hK K) | (refine zqj ?_ rfl ?_ ?_;rotate_left;(focus (intro w2 hw2;obtain ⟨k0,k1,k2,k3⟩:=HK.out w2 hw2;go_simp;rfl));intro K hK;go_simp;refine hK _ ?_;clear hK K))
  refine zxh ?_;intro w9 hb9
  have hD : Below wr.heap.size wr w9:=hC.trans (Below.mono (((Below.refl _ _).drew).trans hb9) hC.size)
  clear HK hb9
  cases bm
  rotate_left
  ·
   have HE2:=hd_ (show mergeF a b = (mergeF (x :: a2) b2).map ((o ++ [y]) ++ ·) by rw [HE.out,mergeF,if_neg (by rw [HBL.out];simp),if_pos HBM.out,zsa])
   obtain ⟨q9,offb9,eB,hqB9,d0,d1,d2⟩:=(HRB1.out.below (hbw.trans (Below.mono hD hbz))).head
   injection eB with eB;injection eB with eB1 eB2;subst eB1 eB2
   go_wp2_with (at_builtin;refine zqz rfl _ _ _ rfl w.heap.size 99 i0 _ 3 24 Tryz.underlying45 HI HZ0 HZ1 HZ2 rfl (by decide) (.slice C o.length cc) (o.map Line.cells) rfl ((HW.out.below hD).alloc _) w9.heap.size 1 [.int .i64 y.Kind,.int .i64 y.Ch,.int .i64 y.Amt] 99 rfl (zqi (by first | rfl | (simp;done))) rfl (by simp [Value.oneCell']) (by rw [List.length_map];omega) (by decide) (by have:=Below.size hD;(try simp at this);simp;omega) ?_;intro g6 cap6 w6 how6 hgr6 hat6 hlt6;rw [List.length_map] at how6;rw [List.length_map];have hb6:=KB.out w9 hD _ _ hgr6;have O6:=hd_ how6;clear how6 hgr6 hat6)
   go_roundw
   case rel =>
    refine ⟨x :: a2,b2,o ++ [y],_,_,some ⟨g6,0,none⟩,_,_,cap6,rfl,rfl,by rw [List.length_append];rfl,⟨by (first | omega | (simp;omega) | (simp;done)),by first | exact hca1 | (first | omega | (simp;omega) | (simp;done)),by omega⟩,hd_ HE2.out,hd_ ⟨HR.out.1,fun z hz => HR.out.2 z (by simp [hz])⟩,HRA1.out,HRB1.out.tail _ (fun hn => by have h1 : ¬ cb = 1:=(by omega);simp [h1]),?_,hb6⟩
    rw [List.map_append,List.length_append]
    exact O6.out
   case measure => simp only [lenM];omega
  have m1:=HR.out.1 x (by simp)
  have m2:=HR.out.2 y (by simp)
  obtain ⟨p9,off9,eA,hpB9,c0,c1,c2⟩:=(HRA1.out.below (hbw.trans (Below.mono hD hbz))).head
  injection eA with eA;injection eA with eA1 eA2;subst eA1 eA2
  obtain ⟨q9,offb9,eB,hqB9,d0,d1,d2⟩:=(HRB1.out.below (hbw.trans (Below.mono hD hbz))).head
  injection eB with eB;injection eB with eB1 eB2;subst eB1 eB2
  have hz9:=hD.size
  go_wp2_with fail
  go_region
  go_wp2_with fail
  refine (i_in _ _ _ _).mono ?_
  rintro e w' ⟨rfl,rfl⟩
  obtain ⟨e1,e2⟩:=less_eq HBL HBM
  cases hrg : rangeB (x.Amt + y.Amt)
  ·
   have HE2:=hd_ (show mergeF a b = none by rw [HE.out,mergeF,if_neg (by rw [HBL.out];simp),if_neg (by rw [HBM.out];simp),if_neg (by rw [hrg];simp)];rfl)
   rw [show inB (x.Amt + y.Amt) (-1125899906842624) 1125899906842624 = false from hrg]
   clear hrg e1 e2
   go_wp2_with fail
   go_ret2
   exact ⟨[],none,0,by rw [HE2.out];rfl,(fun x hx => by rw [HE2.out] at hx;cases hx),Ow.nil_,hbw.trans (Below.mono hD.drew hbz)⟩
  rw [show inB (x.Amt + y.Amt) (-1125899906842624) 1125899906842624 = true from hrg]
  by_cases hs : x.Amt + y.Amt = 0
  ·
   have HE2:=hd_ (show mergeF a b = (mergeF a2 b2).map (o ++ ·) by rw [HE.out,mergeF,if_neg (by rw [HBL.out];simp),if_neg (by rw [HBM.out];simp),if_pos hrg,if_pos hs])
   have ts : (x.Amt + y.Amt == 0) = true:=by simpa using hs
   clear hrg e1 e2
   go_wp2_with fail
   go_region
   go_wp2_with fail
   go_roundw
   case rel =>
    refine ⟨a2,b2,o,_,_,C,_,_,cc,rfl,rfl,rfl,⟨by (first | omega | (simp;omega) | (simp;done)),by (first | omega | (simp;omega) | (simp;done)),by (first | omega | (simp;omega) | (simp;done))⟩,hd_ HE2.out,hd_ ⟨fun z hz => HR.out.1 z (by simp [hz]),fun z hz => HR.out.2 z (by simp [hz])⟩,HRA1.out.tail _ (fun hn => by have h1 : ¬ ca = 1:=(by omega);simp [h1]),HRB1.out.tail _ (fun hn => by have h1 : ¬ cb = 1:=(by omega);simp [h1]),?_,hbw.trans (Below.mono hD.drew.drew hbz)⟩
    exact HW.out.below hD.drew.drew
   case measure => simp only [lenM];omega
  have HE2:=hd_ (show mergeF a b = (mergeF a2 b2).map ((o ++ [⟨x.Kind,x.Ch,x.Amt + y.Amt⟩]) ++ ·) by rw [HE.out,mergeF,if_neg (by rw [HBL.out];simp),if_neg (by rw [HBM.out];simp),if_pos hrg,if_neg hs,zsa])
  have ts : (x.Amt + y.Amt == 0) = false:=by simpa using hs
  clear hrg hs e1 e2
  go_wp2_with (at_builtin;refine zqz rfl _ _ _ rfl w.heap.size 99 i0 _ 3 24 Tryz.underlying45 HI HZ0 HZ1 HZ2 rfl (by decide) (.slice C o.length cc) (o.map Line.cells) rfl ((HW.out.below hD.drew).alloc _) w9.heap.size 1 [.int .i64 x.Kind,.int .i64 x.Ch,.int .i64 (x.Amt + y.Amt)] 99 rfl (zqi (by first | rfl | (simp;done))) rfl (by simp [Value.oneCell']) (by rw [List.length_map];omega) (by decide) (by have:=Below.size hD;(try simp at this);simp;omega) ?_;intro g6 cap6 w6 how6 hgr6 hat6 hlt6;rw [List.length_map] at how6;rw [List.length_map];have hb6:=KB.out w9.drew hD.drew _ _ hgr6;have O6:=hd_ how6;clear how6 hgr6 hat6)
  go_region
  go_wp2_with fail
  go_roundw
  case rel =>
   refine ⟨a2,b2,o ++ [⟨x.Kind,x.Ch,x.Amt + y.Amt⟩],_,_,some ⟨g6,0,none⟩,_,_,cap6,rfl,rfl,by rw [List.length_append];rfl,⟨by (first | omega | (simp;omega) | (simp;done)),by (first | omega | (simp;omega) | (simp;done)),by (first | omega | (simp;omega) | (simp;done))⟩,hd_ HE2.out,hd_ ⟨fun z hz => HR.out.1 z (by simp [hz]),fun z hz => HR.out.2 z (by simp [hz])⟩,HRA1.out.tail _ (fun hn => by have h1 : ¬ ca = 1:=(by omega);simp [h1]),HRB1.out.tail _ (fun hn => by have h1 : ¬ cb = 1:=(by omega);simp [h1]),?_,hb6.drew⟩
   rw [List.map_append,List.length_append];exact O6.out
  case measure => simp only [lenM];omega
end Go.Proofs.YtdbmkfmenfcbiaaGreat

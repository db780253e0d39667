/- EventOk: the program's walk. -/
import Derived.Test.YtdbmkfmenfcbiaaGreatRows
import Derived.Test.YtdbmkfmenfcbiaaGreatNISm
import Derived.Test.YtdbmkfmenfcbiaaGreatNM2
import Derived.Test.YtdbmkfmenfcbiaaGreatNM4
import Derived.Laws.StructEq
import Derived.BigRegion
namespace Go.Proofs.YtdbmkfmenfcbiaaGreat
open Go.RowKit Go.Deep
theorem zjl (w : World) (a0 a1 a2 a3 a4 a5 : Int) (a6 : Bool) (b0 b1 b2 b3 b4 b5 : Int) (b6 : Bool) : (binOp .eql 64 (.agg #[.int .i64 a0,.int .i64 a1,.int .i64 a2,.int .i64 a3,.int .i64 a4,.int .i64 a5,.bool a6]) (.agg #[.int .i64 b0,.int .i64 b1,.int .i64 b2,.int .i64 b3,.int .i64 b4,.int .i64 b5,.bool b6])).run Tryz.prog w = .ok (.bool (a0 == b0 && (a1 == b1 && (a2 == b2 && (a3 == b3 && (a4 == b4 && (a5 == b5 && a6 == b6))))))) w:=by
 rw [run_eql_struct,show (10000 : Nat) = 9999 + 1 from rfl,run_equalIn_struct w 9999 _ _ _ (by kernel_rfl) (by kernel_rfl)]
 simp [go_sem,Tryz.underlying64,Tryz.underlying3,Tryz.underlying4]
 (repeat' split) <;> simp_all
theorem evq1 {key ch ot amt fee : Int} {yes : Bool} (ha : amtB amt = true) (_ : amtB fee = true) (hp : decide (0 < amt) = true) : (key == 0 && (ch == 0 && (ot == 0 && (fee == 0 && (!yes))))) = evB ⟨1,key,ch,ot,amt,fee,yes⟩:=by
 rw [Bool.eq_iff_iff]
 have hi : inB amt 1 1125899906842624 = true:=zjj.2 (by have:=zja.1 ha;have:=of_decide_eq_true hp;omega)
 simp [evB,hi,and_assoc]
theorem evq2 {key ch ot amt fee : Int} {yes : Bool} (ha : amtB amt = true) (hf : amtB fee = true) (hc : isChanB ch = true) (hp : decide (0 < amt) = true) : (key == 0 && (ot == 0 && (!yes))) = evB ⟨2,key,ch,ot,amt,fee,yes⟩:=by
 rw [Bool.eq_iff_iff]
 have hi : inB amt 1 1125899906842624 = true:=zjj.2 (by have:=zja.1 ha;have:=of_decide_eq_true hp;omega)
 simp [evB,hf,hc,hi,and_assoc]
theorem evq3 {key ch ot amt fee : Int} {yes : Bool} (_ : amtB amt = true) (hf : amtB fee = true) (hc : isChanB ch = true) : (key == 0 && (ot == 0 && (amt == 0 && (!yes)))) = evB ⟨3,key,ch,ot,amt,fee,yes⟩:=by
 rw [Bool.eq_iff_iff]
 simp [evB,hf,hc,and_assoc]
theorem evq4 {key ch ot amt fee : Int} {yes : Bool} (ha : amtB amt = true) (hf : amtB fee = true) (hc : isChanB ch = true) (hq : decide (fee ≤ 1000000) = true) : (key == 0 && (ot == 0 && (!yes))) = evB ⟨4,key,ch,ot,amt,fee,yes⟩:=by
 rw [Bool.eq_iff_iff]
 have hi : inB fee 0 1000000 = true:=zjj.2 (by have:=zja.1 hf;have:=of_decide_eq_true hq;omega)
 simp [evB,ha,hc,hi,and_assoc]
theorem evq5 {key ch ot amt fee : Int} {yes : Bool} (ha : amtB amt = true) (_ : amtB fee = true) (hk : inB key 1 1000000 = true) (hc : isChanB ch = true) (ho : isChanB ot = true) (hn : (ch != ot) = true) (hp : decide (0 < amt) = true) : (fee == 0) = evB ⟨5,key,ch,ot,amt,fee,yes⟩:=by
 rw [Bool.eq_iff_iff]
 have hi : inB amt 1 1125899906842624 = true:=zjj.2 (by have:=zja.1 ha;have:=of_decide_eq_true hp;omega)
 have hm : ¬ ch = ot:=by simpa using hn
 simp [evB,hk,hc,ho,hi,hm]
theorem evq9 {key ch ot amt fee : Int} {yes : Bool} (ha : amtB amt = true) (hf : amtB fee = true) (hk : inB key 1 1000000 = true) (hc : isChanB ch = true) (ho : isChanB ot = true) (hn : (ch != ot) = true) (hp : decide (0 < amt) = true) : (!yes) = evB ⟨9,key,ch,ot,amt,fee,yes⟩:=by
 rw [Bool.eq_iff_iff]
 have hi : inB amt 1 1125899906842624 = true:=zjj.2 (by have:=zja.1 ha;have:=of_decide_eq_true hp;omega)
 have hm : ¬ ch = ot:=by simpa using hn
 simp [evB,hf,hk,hc,ho,hi,hm]
theorem evq6 {key ch ot amt fee : Int} {yes : Bool} (_ : amtB amt = true) (_ : amtB fee = true) (hk : inB key 1 1000000 = true) : (ch == 0 && (ot == 0 && (amt == 0 && (fee == 0 && (!yes))))) = evB ⟨6,key,ch,ot,amt,fee,yes⟩:=by
 rw [Bool.eq_iff_iff]
 simp [evB,hk,and_assoc]
theorem evq7 {key ch ot amt fee : Int} {yes : Bool} (_ : amtB amt = true) (_ : amtB fee = true) (hk : inB key 1 1000000 = true) : (ch == 0 && (ot == 0 && (amt == 0 && (fee == 0 && (!yes))))) = evB ⟨7,key,ch,ot,amt,fee,yes⟩:=by
 rw [Bool.eq_iff_iff]
 simp [evB,hk,and_assoc]
theorem evq10 {key ch ot amt fee : Int} {yes : Bool} (_ : amtB amt = true) (_ : amtB fee = true) (hk : inB key 1 1000000 = true) : (ch == 0 && (ot == 0 && (amt == 0 && (fee == 0 && (!yes))))) = evB ⟨10,key,ch,ot,amt,fee,yes⟩:=by
 rw [Bool.eq_iff_iff]
 simp [evB,hk,and_assoc]
theorem evq11 {key ch ot amt fee : Int} {yes : Bool} (_ : amtB amt = true) (_ : amtB fee = true) (hk : inB key 1 1000000 = true) : (ch == 0 && (ot == 0 && (amt == 0 && (fee == 0 && (!yes))))) = evB ⟨11,key,ch,ot,amt,fee,yes⟩:=by
 rw [Bool.eq_iff_iff]
 simp [evB,hk,and_assoc]
theorem evq8 {key ch ot amt fee : Int} {yes : Bool} (_ : amtB amt = true) (_ : amtB fee = true) : (key == 0 && (ch == 0 && (ot == 0 && (amt == 0 && (fee == 0 && (!yes)))))) = evB ⟨8,key,ch,ot,amt,fee,yes⟩:=by
 rw [Bool.eq_iff_iff]
 simp [evB,and_assoc]
theorem ev_ch_2 {key ch ot amt fee : Int} {yes : Bool} (h : isChanB ch = false) : evB ⟨2,key,ch,ot,amt,fee,yes⟩ = false:=by
 simp [evB,h]
theorem ev_ch_3 {key ch ot amt fee : Int} {yes : Bool} (h : isChanB ch = false) : evB ⟨3,key,ch,ot,amt,fee,yes⟩ = false:=by
 simp [evB,h]
theorem ev_ch_4 {key ch ot amt fee : Int} {yes : Bool} (h : isChanB ch = false) : evB ⟨4,key,ch,ot,amt,fee,yes⟩ = false:=by
 simp [evB,h]
theorem ev_ch_5 {key ch ot amt fee : Int} {yes : Bool} (h : isChanB ch = false) : evB ⟨5,key,ch,ot,amt,fee,yes⟩ = false:=by
 simp [evB,h]
theorem ev_ch_9 {key ch ot amt fee : Int} {yes : Bool} (h : isChanB ch = false) : evB ⟨9,key,ch,ot,amt,fee,yes⟩ = false:=by
 simp [evB,h]
theorem ev_ot_5 {key ch ot amt fee : Int} {yes : Bool} (h : isChanB ot = false) : evB ⟨5,key,ch,ot,amt,fee,yes⟩ = false:=by
 simp [evB,h]
theorem ev_ot_9 {key ch ot amt fee : Int} {yes : Bool} (h : isChanB ot = false) : evB ⟨9,key,ch,ot,amt,fee,yes⟩ = false:=by
 simp [evB,h]
theorem ev_key_5 {key ch ot amt fee : Int} {yes : Bool} (h : inB key 1 1000000 = false) : evB ⟨5,key,ch,ot,amt,fee,yes⟩ = false:=by
 simp [evB,h]
theorem ev_key_9 {key ch ot amt fee : Int} {yes : Bool} (h : inB key 1 1000000 = false) : evB ⟨9,key,ch,ot,amt,fee,yes⟩ = false:=by
 simp [evB,h]
theorem ev_key_6 {key ch ot amt fee : Int} {yes : Bool} (h : inB key 1 1000000 = false) : evB ⟨6,key,ch,ot,amt,fee,yes⟩ = false:=by
 simp [evB,h]
theorem ev_key_7 {key ch ot amt fee : Int} {yes : Bool} (h : inB key 1 1000000 = false) : evB ⟨7,key,ch,ot,amt,fee,yes⟩ = false:=by
 simp [evB,h]
theorem ev_key_10 {key ch ot amt fee : Int} {yes : Bool} (h : inB key 1 1000000 = false) : evB ⟨10,key,ch,ot,amt,fee,yes⟩ = false:=by
 simp [evB,h]
theorem ev_key_11 {key ch ot amt fee : Int} {yes : Bool} (h : inB key 1 1000000 = false) : evB ⟨11,key,ch,ot,amt,fee,yes⟩ = false:=by
 simp [evB,h]
theorem ev_amt_1 {key ch ot amt fee : Int} {yes : Bool} (h : decide (0 < amt) = false) : evB ⟨1,key,ch,ot,amt,fee,yes⟩ = false:=by
 have h2 : inB amt 1 1125899906842624 = false:=Bool.eq_false_iff.2 (fun h9 => by have:=zjj.1 h9;have:=of_decide_eq_false h;omega)
 simp [evB,h2]
theorem ev_amt_2 {key ch ot amt fee : Int} {yes : Bool} (h : decide (0 < amt) = false) : evB ⟨2,key,ch,ot,amt,fee,yes⟩ = false:=by
 have h2 : inB amt 1 1125899906842624 = false:=Bool.eq_false_iff.2 (fun h9 => by have:=zjj.1 h9;have:=of_decide_eq_false h;omega)
 simp [evB,h2]
theorem ev_amt_5 {key ch ot amt fee : Int} {yes : Bool} (h : decide (0 < amt) = false) : evB ⟨5,key,ch,ot,amt,fee,yes⟩ = false:=by
 have h2 : inB amt 1 1125899906842624 = false:=Bool.eq_false_iff.2 (fun h9 => by have:=zjj.1 h9;have:=of_decide_eq_false h;omega)
 simp [evB,h2]
theorem ev_amt_9 {key ch ot amt fee : Int} {yes : Bool} (h : decide (0 < amt) = false) : evB ⟨9,key,ch,ot,amt,fee,yes⟩ = false:=by
 have h2 : inB amt 1 1125899906842624 = false:=Bool.eq_false_iff.2 (fun h9 => by have:=zjj.1 h9;have:=of_decide_eq_false h;omega)
 simp [evB,h2]
theorem ev_ppm_4 {key ch ot amt fee : Int} {yes : Bool} (h : decide (fee ≤ 1000000) = false) : evB ⟨4,key,ch,ot,amt,fee,yes⟩ = false:=by
 have h2 : inB fee 0 1000000 = false:=Bool.eq_false_iff.2 (fun h9 => by have:=zjj.1 h9;have:=of_decide_eq_false h;omega)
 simp [evB,h2]
theorem ev_ne_5 {key ch ot amt fee : Int} {yes : Bool} (h : (ch != ot) = false) : evB ⟨5,key,ch,ot,amt,fee,yes⟩ = false:=by
 obtain rfl : ch = ot:=by simpa using h
 simp [evB]
theorem ev_ne_9 {key ch ot amt fee : Int} {yes : Bool} (h : (ch != ot) = false) : evB ⟨9,key,ch,ot,amt,fee,yes⟩ = false:=by
 obtain rfl : ch = ot:=by simpa using h
 simp [evB]
set_option maxRecDepth 100000 in
set_option maxHeartbeats 4000000 in
theorem i_Ev1 (key ch ot amt fee : Int) (yes : Bool) (w : World) (ha : amtB amt = true) (hf : amtB fee = true) :
  Calls Tryz.prog 86 #[.agg #[.int .i64 1,.int .i64 key,.int .i64 ch,.int .i64 ot,.int .i64 amt,.int .i64 fee,.bool yes]] w fun e' w' => e' = .returned (.bool (evB ⟨1,key,ch,ot,amt,fee,yes⟩))∧Below w.heap.size w w':=by
 obtain ⟨r,hr⟩ : ∃ r,evB ⟨1,key,ch,ot,amt,fee,yes⟩ = r:=⟨_,rfl⟩
 rw [hr]
 have HR:=hd_ hr
 clear hr
 have heq:=fun W => zjl W 1 key ch ot amt fee yes 1 0 0 0 amt 0 false
 go_enter Tryz.func86,Tryz.ntmps86
 cases hp : decide (0 < amt)
 ·
  have HF:=hd_ hp
  go_wp2_with (first | (go_at_call 50;refine (zqo _ _).mono ?_;rintro e w' ⟨rfl,rfl⟩) | (go_at_call 84;refine (zxa _ _).mono ?_;rintro e w' ⟨rfl,rfl⟩) | (go_at_call 140;refine (zxl _ _).mono ?_;rintro e w' ⟨rfl,rfl⟩))
  go_ret
  exact ⟨zqf (by rw [← HR.out];exact (ev_amt_1 HF).symm),bl_⟩
 have HFhp:=hd_ hp
 go_wp2_with (first | (go_at_call 50;refine (zqo _ _).mono ?_;rintro e w' ⟨rfl,rfl⟩) | (go_at_call 84;refine (zxa _ _).mono ?_;rintro e w' ⟨rfl,rfl⟩) | (go_at_call 140;refine (zxl _ _).mono ?_;rintro e w' ⟨rfl,rfl⟩))
 go_ret
 exact ⟨zqf (by rw [← HR.out];exact evq1 ha hf HFhp),bl_⟩
set_option maxRecDepth 100000 in
set_option maxHeartbeats 4000000 in
theorem i_Ev2 (key ch ot amt fee : Int) (yes : Bool) (w : World) (ha : amtB amt = true) (hf : amtB fee = true) :
  Calls Tryz.prog 86 #[.agg #[.int .i64 2,.int .i64 key,.int .i64 ch,.int .i64 ot,.int .i64 amt,.int .i64 fee,.bool yes]] w fun e' w' => e' = .returned (.bool (evB ⟨2,key,ch,ot,amt,fee,yes⟩))∧Below w.heap.size w w':=by
 obtain ⟨r,hr⟩ : ∃ r,evB ⟨2,key,ch,ot,amt,fee,yes⟩ = r:=⟨_,rfl⟩
 rw [hr]
 have HR:=hd_ hr
 clear hr
 have heq:=fun W => zjl W 2 key ch ot amt fee yes 2 0 ch 0 amt fee false
 go_enter Tryz.func86,Tryz.ntmps86
 go_upto_region 11 with (first | (go_at_call 50;refine (zqo _ _).mono ?_;rintro e w' ⟨rfl,rfl⟩) | (go_at_call 84;refine (zxa _ _).mono ?_;rintro e w' ⟨rfl,rfl⟩) | (go_at_call 140;refine (zxl _ _).mono ?_;rintro e w' ⟨rfl,rfl⟩))
 go_region
 cases hc : isChanB ch
 ·
  have HF:=hd_ hc
  go_wp2_with (first | (go_at_call 50;refine (zqo _ _).mono ?_;rintro e w' ⟨rfl,rfl⟩) | (go_at_call 84;refine (zxa _ _).mono ?_;rintro e w' ⟨rfl,rfl⟩) | (go_at_call 140;refine (zxl _ _).mono ?_;rintro e w' ⟨rfl,rfl⟩))
  go_ret
  exact ⟨zqf (by rw [← HR.out];exact (ev_ch_2 HF).symm),bl_⟩
 have HFhc:=hd_ hc
 cases hp : decide (0 < amt)
 ·
  have HF:=hd_ hp
  go_wp2_with (first | (go_at_call 50;refine (zqo _ _).mono ?_;rintro e w' ⟨rfl,rfl⟩) | (go_at_call 84;refine (zxa _ _).mono ?_;rintro e w' ⟨rfl,rfl⟩) | (go_at_call 140;refine (zxl _ _).mono ?_;rintro e w' ⟨rfl,rfl⟩))
  go_ret
  exact ⟨zqf (by rw [← HR.out];exact (ev_amt_2 HF).symm),bl_⟩
 have HFhp:=hd_ hp
 go_wp2_with (first | (go_at_call 50;refine (zqo _ _).mono ?_;rintro e w' ⟨rfl,rfl⟩) | (go_at_call 84;refine (zxa _ _).mono ?_;rintro e w' ⟨rfl,rfl⟩) | (go_at_call 140;refine (zxl _ _).mono ?_;rintro e w' ⟨rfl,rfl⟩))
 go_ret
 exact ⟨zqf (by rw [← HR.out];exact evq2 ha hf HFhc HFhp),bl_⟩
set_option maxRecDepth 100000 in
set_option maxHeartbeats 4000000 in
theorem i_Ev3 (key ch ot amt fee : Int) (yes : Bool) (w : World) (ha : amtB amt = true) (hf : amtB fee = true) :
  Calls Tryz.prog 86 #[.agg #[.int .i64 3,.int .i64 key,.int .i64 ch,.int .i64 ot,.int .i64 amt,.int .i64 fee,.bool yes]] w fun e' w' => e' = .returned (.bool (evB ⟨3,key,ch,ot,amt,fee,yes⟩))∧Below w.heap.size w w':=by
 obtain ⟨r,hr⟩ : ∃ r,evB ⟨3,key,ch,ot,amt,fee,yes⟩ = r:=⟨_,rfl⟩
 rw [hr]
 have HR:=hd_ hr
 clear hr
 have heq:=fun W => zjl W 3 key ch ot amt fee yes 3 0 ch 0 0 fee false
 go_enter Tryz.func86,Tryz.ntmps86
 go_upto_region 14 with (first | (go_at_call 50;refine (zqo _ _).mono ?_;rintro e w' ⟨rfl,rfl⟩) | (go_at_call 84;refine (zxa _ _).mono ?_;rintro e w' ⟨rfl,rfl⟩) | (go_at_call 140;refine (zxl _ _).mono ?_;rintro e w' ⟨rfl,rfl⟩))
 go_region
 cases hc : isChanB ch
 ·
  have HF:=hd_ hc
  go_wp2_with (first | (go_at_call 50;refine (zqo _ _).mono ?_;rintro e w' ⟨rfl,rfl⟩) | (go_at_call 84;refine (zxa _ _).mono ?_;rintro e w' ⟨rfl,rfl⟩) | (go_at_call 140;refine (zxl _ _).mono ?_;rintro e w' ⟨rfl,rfl⟩))
  go_ret
  exact ⟨zqf (by rw [← HR.out];exact (ev_ch_3 HF).symm),bl_⟩
 have HFhc:=hd_ hc
 go_wp2_with (first | (go_at_call 50;refine (zqo _ _).mono ?_;rintro e w' ⟨rfl,rfl⟩) | (go_at_call 84;refine (zxa _ _).mono ?_;rintro e w' ⟨rfl,rfl⟩) | (go_at_call 140;refine (zxl _ _).mono ?_;rintro e w' ⟨rfl,rfl⟩))
 go_ret
 exact ⟨zqf (by rw [← HR.out];exact evq3 ha hf HFhc),bl_⟩
set_option maxRecDepth 100000 in
set_option maxHeartbeats 4000000 in
theorem i_Ev4 (key ch ot amt fee : Int) (yes : Bool) (w : World) (ha : amtB amt = true) (hf : amtB fee = true) :
  Calls Tryz.prog 86 #[.agg #[.int .i64 4,.int .i64 key,.int .i64 ch,.int .i64 ot,.int .i64 amt,.int .i64 fee,.bool yes]] w fun e' w' => e' = .returned (.bool (evB ⟨4,key,ch,ot,amt,fee,yes⟩))∧Below w.heap.size w w':=by
 obtain ⟨r,hr⟩ : ∃ r,evB ⟨4,key,ch,ot,amt,fee,yes⟩ = r:=⟨_,rfl⟩
 rw [hr]
 have HR:=hd_ hr
 clear hr
 have heq:=fun W => zjl W 4 key ch ot amt fee yes 4 0 ch 0 amt fee false
 go_enter Tryz.func86,Tryz.ntmps86
 go_upto_region 17 with (first | (go_at_call 50;refine (zqo _ _).mono ?_;rintro e w' ⟨rfl,rfl⟩) | (go_at_call 84;refine (zxa _ _).mono ?_;rintro e w' ⟨rfl,rfl⟩) | (go_at_call 140;refine (zxl _ _).mono ?_;rintro e w' ⟨rfl,rfl⟩))
 go_region
 cases hc : isChanB ch
 ·
  have HF:=hd_ hc
  go_wp2_with (first | (go_at_call 50;refine (zqo _ _).mono ?_;rintro e w' ⟨rfl,rfl⟩) | (go_at_call 84;refine (zxa _ _).mono ?_;rintro e w' ⟨rfl,rfl⟩) | (go_at_call 140;refine (zxl _ _).mono ?_;rintro e w' ⟨rfl,rfl⟩))
  go_ret
  exact ⟨zqf (by rw [← HR.out];exact (ev_ch_4 HF).symm),bl_⟩
 have HFhc:=hd_ hc
 cases hq : decide (fee ≤ 1000000)
 ·
  have HF:=hd_ hq
  go_wp2_with (first | (go_at_call 50;refine (zqo _ _).mono ?_;rintro e w' ⟨rfl,rfl⟩) | (go_at_call 84;refine (zxa _ _).mono ?_;rintro e w' ⟨rfl,rfl⟩) | (go_at_call 140;refine (zxl _ _).mono ?_;rintro e w' ⟨rfl,rfl⟩))
  go_ret
  exact ⟨zqf (by rw [← HR.out];exact (ev_ppm_4 HF).symm),bl_⟩
 have HFhq:=hd_ hq
 go_wp2_with (first | (go_at_call 50;refine (zqo _ _).mono ?_;rintro e w' ⟨rfl,rfl⟩) | (go_at_call 84;refine (zxa _ _).mono ?_;rintro e w' ⟨rfl,rfl⟩) | (go_at_call 140;refine (zxl _ _).mono ?_;rintro e w' ⟨rfl,rfl⟩))
 go_ret
 exact ⟨zqf (by rw [← HR.out];exact evq4 ha hf HFhc HFhq),bl_⟩
set_option maxRecDepth 100000 in
set_option maxHeartbeats 4000000 in
theorem i_Ev5 (key ch ot amt fee : Int) (yes : Bool) (w : World) (ha : amtB amt = true) (hf : amtB fee = true) :
  Calls Tryz.prog 86 #[.agg #[.int .i64 5,.int .i64 key,.int .i64 ch,.int .i64 ot,.int .i64 amt,.int .i64 fee,.bool yes]] w fun e' w' => e' = .returned (.bool (evB ⟨5,key,ch,ot,amt,fee,yes⟩))∧Below w.heap.size w w':=by
 obtain ⟨r,hr⟩ : ∃ r,evB ⟨5,key,ch,ot,amt,fee,yes⟩ = r:=⟨_,rfl⟩
 rw [hr]
 have HR:=hd_ hr
 clear hr
 have heq:=fun W => zjl W 5 key ch ot amt fee yes 5 key ch ot amt 0 yes
 go_enter Tryz.func86,Tryz.ntmps86
 go_upto_region 20 with (first | (go_at_call 50;refine (zqo _ _).mono ?_;rintro e w' ⟨rfl,rfl⟩) | (go_at_call 84;refine (zxa _ _).mono ?_;rintro e w' ⟨rfl,rfl⟩) | (go_at_call 140;refine (zxl _ _).mono ?_;rintro e w' ⟨rfl,rfl⟩))
 go_region
 cases hk : inB key 1 1000000
 ·
  have HF:=hd_ hk
  go_wp2_with (first | (go_at_call 50;refine (zqo _ _).mono ?_;rintro e w' ⟨rfl,rfl⟩) | (go_at_call 84;refine (zxa _ _).mono ?_;rintro e w' ⟨rfl,rfl⟩) | (go_at_call 140;refine (zxl _ _).mono ?_;rintro e w' ⟨rfl,rfl⟩))
  go_ret
  exact ⟨zqf (by rw [← HR.out];exact (ev_key_5 HF).symm),bl_⟩
 have HFhk:=hd_ hk
 cases hc : isChanB ch
 ·
  have HF:=hd_ hc
  go_wp2_with (first | (go_at_call 50;refine (zqo _ _).mono ?_;rintro e w' ⟨rfl,rfl⟩) | (go_at_call 84;refine (zxa _ _).mono ?_;rintro e w' ⟨rfl,rfl⟩) | (go_at_call 140;refine (zxl _ _).mono ?_;rintro e w' ⟨rfl,rfl⟩))
  go_ret
  exact ⟨zqf (by rw [← HR.out];exact (ev_ch_5 HF).symm),bl_⟩
 have HFhc:=hd_ hc
 cases ho : isChanB ot
 ·
  have HF:=hd_ ho
  go_wp2_with (first | (go_at_call 50;refine (zqo _ _).mono ?_;rintro e w' ⟨rfl,rfl⟩) | (go_at_call 84;refine (zxa _ _).mono ?_;rintro e w' ⟨rfl,rfl⟩) | (go_at_call 140;refine (zxl _ _).mono ?_;rintro e w' ⟨rfl,rfl⟩))
  go_ret
  exact ⟨zqf (by rw [← HR.out];exact (ev_ot_5 HF).symm),bl_⟩
 have HFho:=hd_ ho
 cases hn : (ch != ot)
 ·
  have HF:=hd_ hn
  have hn2 : (ch == ot) = true:=by simpa using hn
  go_wp2_with (first | (go_at_call 50;refine (zqo _ _).mono ?_;rintro e w' ⟨rfl,rfl⟩) | (go_at_call 84;refine (zxa _ _).mono ?_;rintro e w' ⟨rfl,rfl⟩) | (go_at_call 140;refine (zxl _ _).mono ?_;rintro e w' ⟨rfl,rfl⟩))
  go_ret
  exact ⟨zqf (by rw [← HR.out];exact (ev_ne_5 HF).symm),bl_⟩
 have HFhn:=hd_ hn
 have hn2 : (ch == ot) = false:=by simpa using hn
 cases hp : decide (0 < amt)
 ·
  have HF:=hd_ hp
  go_wp2_with (first | (go_at_call 50;refine (zqo _ _).mono ?_;rintro e w' ⟨rfl,rfl⟩) | (go_at_call 84;refine (zxa _ _).mono ?_;rintro e w' ⟨rfl,rfl⟩) | (go_at_call 140;refine (zxl _ _).mono ?_;rintro e w' ⟨rfl,rfl⟩))
  go_ret
  exact ⟨zqf (by rw [← HR.out];exact (ev_amt_5 HF).symm),bl_⟩
 have HFhp:=hd_ hp
 go_wp2_with (first | (go_at_call 50;refine (zqo _ _).mono ?_;rintro e w' ⟨rfl,rfl⟩) | (go_at_call 84;refine (zxa _ _).mono ?_;rintro e w' ⟨rfl,rfl⟩) | (go_at_call 140;refine (zxl _ _).mono ?_;rintro e w' ⟨rfl,rfl⟩))
 go_ret
 exact ⟨zqf (by rw [← HR.out];exact evq5 ha hf HFhk HFhc HFho HFhn HFhp),bl_⟩
set_option maxRecDepth 100000 in
set_option maxHeartbeats 4000000 in
theorem i_Ev9 (key ch ot amt fee : Int) (yes : Bool) (w : World) (ha : amtB amt = true) (hf : amtB fee = true) :
  Calls Tryz.prog 86 #[.agg #[.int .i64 9,.int .i64 key,.int .i64 ch,.int .i64 ot,.int .i64 amt,.int .i64 fee,.bool yes]] w fun e' w' => e' = .returned (.bool (evB ⟨9,key,ch,ot,amt,fee,yes⟩))∧Below w.heap.size w w':=by
 obtain ⟨r,hr⟩ : ∃ r,evB ⟨9,key,ch,ot,amt,fee,yes⟩ = r:=⟨_,rfl⟩
 rw [hr]
 have HR:=hd_ hr
 clear hr
 have heq:=fun W => zjl W 9 key ch ot amt fee yes 9 key ch ot amt fee false
 go_enter Tryz.func86,Tryz.ntmps86
 go_upto_region 23 with (first | (go_at_call 50;refine (zqo _ _).mono ?_;rintro e w' ⟨rfl,rfl⟩) | (go_at_call 84;refine (zxa _ _).mono ?_;rintro e w' ⟨rfl,rfl⟩) | (go_at_call 140;refine (zxl _ _).mono ?_;rintro e w' ⟨rfl,rfl⟩))
 go_region
 cases hk : inB key 1 1000000
 ·
  have HF:=hd_ hk
  go_wp2_with (first | (go_at_call 50;refine (zqo _ _).mono ?_;rintro e w' ⟨rfl,rfl⟩) | (go_at_call 84;refine (zxa _ _).mono ?_;rintro e w' ⟨rfl,rfl⟩) | (go_at_call 140;refine (zxl _ _).mono ?_;rintro e w' ⟨rfl,rfl⟩))
  go_ret
  exact ⟨zqf (by rw [← HR.out];exact (ev_key_9 HF).symm),bl_⟩
 have HFhk:=hd_ hk
 cases hc : isChanB ch
 ·
  have HF:=hd_ hc
  go_wp2_with (first | (go_at_call 50;refine (zqo _ _).mono ?_;rintro e w' ⟨rfl,rfl⟩) | (go_at_call 84;refine (zxa _ _).mono ?_;rintro e w' ⟨rfl,rfl⟩) | (go_at_call 140;refine (zxl _ _).mono ?_;rintro e w' ⟨rfl,rfl⟩))
  go_ret
  exact ⟨zqf (by rw [← HR.out];exact (ev_ch_9 HF).symm),bl_⟩
 have HFhc:=hd_ hc
 cases ho : isChanB ot
 ·
  have HF:=hd_ ho
  go_wp2_with (first | (go_at_call 50;refine (zqo _ _).mono ?_;rintro e w' ⟨rfl,rfl⟩) | (go_at_call 84;refine (zxa _ _).mono ?_;rintro e w' ⟨rfl,rfl⟩) | (go_at_call 140;refine (zxl _ _).mono ?_;rintro e w' ⟨rfl,rfl⟩))
  go_ret
  exact ⟨zqf (by rw [← HR.out];exact (ev_ot_9 HF).symm),bl_⟩
 have HFho:=hd_ ho
 cases hn : (ch != ot)
 ·
  have HF:=hd_ hn
  have hn2 : (ch == ot) = true:=by simpa using hn
  go_wp2_with (first | (go_at_call 50;refine (zqo _ _).mono ?_;rintro e w' ⟨rfl,rfl⟩) | (go_at_call 84;refine (zxa _ _).mono ?_;rintro e w' ⟨rfl,rfl⟩) | (go_at_call 140;refine (zxl _ _).mono ?_;rintro e w' ⟨rfl,rfl⟩))
  go_ret
  exact ⟨zqf (by rw [← HR.out];exact (ev_ne_9 HF).symm),bl_⟩
 have HFhn:=hd_ hn
 have hn2 : (ch == ot) = false:=by simpa using hn
 cases hp : decide (0 < amt)
 ·
  have HF:=hd_ hp
  go_wp2_with (first | (go_at_call 50;refine (zqo _ _).mono ?_;rintro e w' ⟨rfl,rfl⟩) | (go_at_call 84;refine (zxa _ _).mono ?_;rintro e w' ⟨rfl,rfl⟩) | (go_at_call 140;refine (zxl _ _).mono ?_;rintro e w' ⟨rfl,rfl⟩))
  go_ret
  exact ⟨zqf (by rw [← HR.out];exact (ev_amt_9 HF).symm),bl_⟩
 have HFhp:=hd_ hp
 go_wp2_with (first | (go_at_call 50;refine (zqo _ _).mono ?_;rintro e w' ⟨rfl,rfl⟩) | (go_at_call 84;refine (zxa _ _).mono ?_;rintro e w' ⟨rfl,rfl⟩) | (go_at_call 140;refine (zxl _ _).mono ?_;rintro e w' ⟨rfl,rfl⟩))
 go_ret
 exact ⟨zqf (by rw [← HR.out];exact evq9 ha hf HFhk HFhc HFho HFhn HFhp),bl_⟩
set_option maxRecDepth 100000 in
set_option maxHeartbeats 4000000 in
theorem i_Ev6 (key ch ot amt fee : Int) (yes : Bool) (w : World) (ha : amtB amt = true) (hf : amtB fee = true) :
  Calls Tryz.prog 86 #[.agg #[.int .i64 6,.int .i64 key,.int .i64 ch,.int .i64 ot,.int .i64 amt,.int .i64 fee,.bool yes]] w fun e' w' => e' = .returned (.bool (evB ⟨6,key,ch,ot,amt,fee,yes⟩))∧Below w.heap.size w w':=by
 obtain ⟨r,hr⟩ : ∃ r,evB ⟨6,key,ch,ot,amt,fee,yes⟩ = r:=⟨_,rfl⟩
 rw [hr]
 have HR:=hd_ hr
 clear hr
 have heq:=fun W => zjl W 6 key ch ot amt fee yes 6 key 0 0 0 0 false
 go_enter Tryz.func86,Tryz.ntmps86
 cases hk : inB key 1 1000000
 ·
  have HF:=hd_ hk
  go_wp2_with (first | (go_at_call 50;refine (zqo _ _).mono ?_;rintro e w' ⟨rfl,rfl⟩) | (go_at_call 84;refine (zxa _ _).mono ?_;rintro e w' ⟨rfl,rfl⟩) | (go_at_call 140;refine (zxl _ _).mono ?_;rintro e w' ⟨rfl,rfl⟩))
  go_ret
  exact ⟨zqf (by rw [← HR.out];exact (ev_key_6 HF).symm),bl_⟩
 have HFhk:=hd_ hk
 go_wp2_with (first | (go_at_call 50;refine (zqo _ _).mono ?_;rintro e w' ⟨rfl,rfl⟩) | (go_at_call 84;refine (zxa _ _).mono ?_;rintro e w' ⟨rfl,rfl⟩) | (go_at_call 140;refine (zxl _ _).mono ?_;rintro e w' ⟨rfl,rfl⟩))
 go_ret
 exact ⟨zqf (by rw [← HR.out];exact evq6 ha hf HFhk),bl_⟩
set_option maxRecDepth 100000 in
set_option maxHeartbeats 4000000 in
theorem i_Ev7 (key ch ot amt fee : Int) (yes : Bool) (w : World) (ha : amtB amt = true) (hf : amtB fee = true) :
  Calls Tryz.prog 86 #[.agg #[.int .i64 7,.int .i64 key,.int .i64 ch,.int .i64 ot,.int .i64 amt,.int .i64 fee,.bool yes]] w fun e' w' => e' = .returned (.bool (evB ⟨7,key,ch,ot,amt,fee,yes⟩))∧Below w.heap.size w w':=by
 obtain ⟨r,hr⟩ : ∃ r,evB ⟨7,key,ch,ot,amt,fee,yes⟩ = r:=⟨_,rfl⟩
 rw [hr]
 have HR:=hd_ hr
 clear hr
 have heq:=fun W => zjl W 7 key ch ot amt fee yes 7 key 0 0 0 0 false
 go_enter Tryz.func86,Tryz.ntmps86
 cases hk : inB key 1 1000000
 ·
  have HF:=hd_ hk
  go_wp2_with (first | (go_at_call 50;refine (zqo _ _).mono ?_;rintro e w' ⟨rfl,rfl⟩) | (go_at_call 84;refine (zxa _ _).mono ?_;rintro e w' ⟨rfl,rfl⟩) | (go_at_call 140;refine (zxl _ _).mono ?_;rintro e w' ⟨rfl,rfl⟩))
  go_ret
  exact ⟨zqf (by rw [← HR.out];exact (ev_key_7 HF).symm),bl_⟩
 have HFhk:=hd_ hk
 go_wp2_with (first | (go_at_call 50;refine (zqo _ _).mono ?_;rintro e w' ⟨rfl,rfl⟩) | (go_at_call 84;refine (zxa _ _).mono ?_;rintro e w' ⟨rfl,rfl⟩) | (go_at_call 140;refine (zxl _ _).mono ?_;rintro e w' ⟨rfl,rfl⟩))
 go_ret
 exact ⟨zqf (by rw [← HR.out];exact evq7 ha hf HFhk),bl_⟩
set_option maxRecDepth 100000 in
set_option maxHeartbeats 4000000 in
theorem i_Ev10 (key ch ot amt fee : Int) (yes : Bool) (w : World) (ha : amtB amt = true) (hf : amtB fee = true) :
  Calls Tryz.prog 86 #[.agg #[.int .i64 10,.int .i64 key,.int .i64 ch,.int .i64 ot,.int .i64 amt,.int .i64 fee,.bool yes]] w fun e' w' => e' = .returned (.bool (evB ⟨10,key,ch,ot,amt,fee,yes⟩))∧Below w.heap.size w w':=by
 obtain ⟨r,hr⟩ : ∃ r,evB ⟨10,key,ch,ot,amt,fee,yes⟩ = r:=⟨_,rfl⟩
 rw [hr]
 have HR:=hd_ hr
 clear hr
 have heq:=fun W => zjl W 10 key ch ot amt fee yes 10 key 0 0 0 0 false
 go_enter Tryz.func86,Tryz.ntmps86
 cases hk : inB key 1 1000000
 ·
  have HF:=hd_ hk
  go_wp2_with (first | (go_at_call 50;refine (zqo _ _).mono ?_;rintro e w' ⟨rfl,rfl⟩) | (go_at_call 84;refine (zxa _ _).mono ?_;rintro e w' ⟨rfl,rfl⟩) | (go_at_call 140;refine (zxl _ _).mono ?_;rintro e w' ⟨rfl,rfl⟩))
  go_ret
  exact ⟨zqf (by rw [← HR.out];exact (ev_key_10 HF).symm),bl_⟩
 have HFhk:=hd_ hk
 go_wp2_with (first | (go_at_call 50;refine (zqo _ _).mono ?_;rintro e w' ⟨rfl,rfl⟩) | (go_at_call 84;refine (zxa _ _).mono ?_;rintro e w' ⟨rfl,rfl⟩) | (go_at_call 140;refine (zxl _ _).mono ?_;rintro e w' ⟨rfl,rfl⟩))
 go_ret
 exact ⟨zqf (by rw [← HR.out];exact evq10 ha hf HFhk),bl_⟩
set_option maxRecDepth 100000 in
set_option maxHeartbeats 4000000 in
theorem i_Ev11 (key ch ot amt fee : Int) (yes : Bool) (w : World) (ha : amtB amt = true) (hf : amtB fee = true) :
  Calls Tryz.prog 86 #[.agg #[.int .i64 11,.int .i64 key,.int .i64 ch,.int .i64 ot,.int .i64 amt,.int .i64 fee,.bool yes]] w fun e' w' => e' = .returned (.bool (evB ⟨11,key,ch,ot,amt,fee,yes⟩))∧Below w.heap.size w w':=by
 obtain ⟨r,hr⟩ : ∃ r,evB ⟨11,key,ch,ot,amt,fee,yes⟩ = r:=⟨_,rfl⟩
 rw [hr]
 have HR:=hd_ hr
 clear hr
 have heq:=fun W => zjl W 11 key ch ot amt fee yes 11 key 0 0 0 0 false
 go_enter Tryz.func86,Tryz.ntmps86
 cases hk : inB key 1 1000000
 ·
  have HF:=hd_ hk
  go_wp2_with (first | (go_at_call 50;refine (zqo _ _).mono ?_;rintro e w' ⟨rfl,rfl⟩) | (go_at_call 84;refine (zxa _ _).mono ?_;rintro e w' ⟨rfl,rfl⟩) | (go_at_call 140;refine (zxl _ _).mono ?_;rintro e w' ⟨rfl,rfl⟩))
  go_ret
  exact ⟨zqf (by rw [← HR.out];exact (ev_key_11 HF).symm),bl_⟩
 have HFhk:=hd_ hk
 go_wp2_with (first | (go_at_call 50;refine (zqo _ _).mono ?_;rintro e w' ⟨rfl,rfl⟩) | (go_at_call 84;refine (zxa _ _).mono ?_;rintro e w' ⟨rfl,rfl⟩) | (go_at_call 140;refine (zxl _ _).mono ?_;rintro e w' ⟨rfl,rfl⟩))
 go_ret
 exact ⟨zqf (by rw [← HR.out];exact evq11 ha hf HFhk),bl_⟩
set_option maxRecDepth 100000 in
set_option maxHeartbeats 4000000 in
theorem i_Ev8 (key ch ot amt fee : Int) (yes : Bool) (w : World) (ha : amtB amt = true) (hf : amtB fee = true) :
  Calls Tryz.prog 86 #[.agg #[.int .i64 8,.int .i64 key,.int .i64 ch,.int .i64 ot,.int .i64 amt,.int .i64 fee,.bool yes]] w fun e' w' => e' = .returned (.bool (evB ⟨8,key,ch,ot,amt,fee,yes⟩))∧Below w.heap.size w w':=by
 obtain ⟨r,hr⟩ : ∃ r,evB ⟨8,key,ch,ot,amt,fee,yes⟩ = r:=⟨_,rfl⟩
 rw [hr]
 have HR:=hd_ hr
 clear hr
 have heq:=fun W => zjl W 8 key ch ot amt fee yes 8 0 0 0 0 0 false
 go_enter Tryz.func86,Tryz.ntmps86
 go_wp2_with (first | (go_at_call 50;refine (zqo _ _).mono ?_;rintro e w' ⟨rfl,rfl⟩) | (go_at_call 84;refine (zxa _ _).mono ?_;rintro e w' ⟨rfl,rfl⟩) | (go_at_call 140;refine (zxl _ _).mono ?_;rintro e w' ⟨rfl,rfl⟩))
 go_ret
 exact ⟨zqf (by rw [← HR.out];exact evq8 ha hf),bl_⟩
set_option maxRecDepth 100000 in
set_option maxHeartbeats 4000000 in
theorem zyt (e : Event) (w : World) :
  Calls Tryz.prog 86 #[.agg #[.int .i64 e.Kind,.int .i64 e.Key,.int .i64 e.Ch,.int .i64 e.To,.int .i64 e.Amt,.int .i64 e.Fee,.bool e.Yes]] w fun e' w' => e' = .returned (.bool (evB e))∧Below w.heap.size w w':=by
 obtain ⟨k,key,ch,ot,amt,fee,yes⟩:=e
 dsimp only
 cases ha : amtB amt
 ·
  have HE : Hid (evB ⟨k,key,ch,ot,amt,fee,yes⟩ = false):=hd_ (Bool.eq_false_iff.2 (fun h => by have:=(zgf h).1;simp only at this;rw [ha] at this;cases this))
  go_enter Tryz.func86,Tryz.ntmps86
  go_wp2_with (first | (go_at_call 50;refine (zqo _ _).mono ?_;rintro e w' ⟨rfl,rfl⟩) | (go_at_call 84;refine (zxa _ _).mono ?_;rintro e w' ⟨rfl,rfl⟩) | (go_at_call 140;refine (zxl _ _).mono ?_;rintro e w' ⟨rfl,rfl⟩))
  go_ret
  exact ⟨zqf HE.out.symm,bl_⟩
 cases hf : amtB fee
 ·
  have HE : Hid (evB ⟨k,key,ch,ot,amt,fee,yes⟩ = false):=hd_ (Bool.eq_false_iff.2 (fun h => by have:=(zgf h).2;simp only at this;rw [hf] at this;cases this))
  go_enter Tryz.func86,Tryz.ntmps86
  go_wp2_with (first | (go_at_call 50;refine (zqo _ _).mono ?_;rintro e w' ⟨rfl,rfl⟩) | (go_at_call 84;refine (zxa _ _).mono ?_;rintro e w' ⟨rfl,rfl⟩) | (go_at_call 140;refine (zxl _ _).mono ?_;rintro e w' ⟨rfl,rfl⟩))
  go_ret
  exact ⟨zqf HE.out.symm,bl_⟩
 by_cases k1 : k = 1
 ·
  subst k1
  exact i_Ev1 key ch ot amt fee yes w ha hf
 by_cases k2 : k = 2
 ·
  subst k2
  exact i_Ev2 key ch ot amt fee yes w ha hf
 by_cases k3 : k = 3
 ·
  subst k3
  exact i_Ev3 key ch ot amt fee yes w ha hf
 by_cases k4 : k = 4
 ·
  subst k4
  exact i_Ev4 key ch ot amt fee yes w ha hf
 by_cases k5 : k = 5
 ·
  subst k5
  exact i_Ev5 key ch ot amt fee yes w ha hf
 by_cases k9 : k = 9
 ·
  subst k9
  exact i_Ev9 key ch ot amt fee yes w ha hf
 by_cases k6 : k = 6
 ·
  subst k6
  exact i_Ev6 key ch ot amt fee yes w ha hf
 by_cases k7 : k = 7
 ·
  subst k7
  exact i_Ev7 key ch ot amt fee yes w ha hf
 by_cases k10 : k = 10
 ·
  subst k10
  exact i_Ev10 key ch ot amt fee yes w ha hf
 by_cases k11 : k = 11
 ·
  subst k11
  exact i_Ev11 key ch ot amt fee yes w ha hf
 by_cases k8 : k = 8
 ·
  subst k8
  exact i_Ev8 key ch ot amt fee yes w ha hf
 have HE : Hid (evB ⟨k,key,ch,ot,amt,fee,yes⟩ = false):=hd_ (by simp [evB,k1,k2,k3,k4,k5,k9,k6,k7,k10,k11,k8])
 have t1 : (k == 1) = false:=beq_eq_false_iff_ne.2 k1
 have t2 : (k == 2) = false:=beq_eq_false_iff_ne.2 k2
 have t3 : (k == 3) = false:=beq_eq_false_iff_ne.2 k3
 have t4 : (k == 4) = false:=beq_eq_false_iff_ne.2 k4
 have t5 : (k == 5) = false:=beq_eq_false_iff_ne.2 k5
 have t9 : (k == 9) = false:=beq_eq_false_iff_ne.2 k9
 have t6 : (k == 6) = false:=beq_eq_false_iff_ne.2 k6
 have t7 : (k == 7) = false:=beq_eq_false_iff_ne.2 k7
 have t10 : (k == 10) = false:=beq_eq_false_iff_ne.2 k10
 have t11 : (k == 11) = false:=beq_eq_false_iff_ne.2 k11
 have t8 : (k == 8) = false:=beq_eq_false_iff_ne.2 k8
 clear k1 k2 k3 k4 k5 k9 k6 k7 k10 k11 k8
 go_enter Tryz.func86,Tryz.ntmps86
 go_wp2_with (first | (go_at_call 50;refine (zqo _ _).mono ?_;rintro e w' ⟨rfl,rfl⟩) | (go_at_call 84;refine (zxa _ _).mono ?_;rintro e w' ⟨rfl,rfl⟩) | (go_at_call 140;refine (zxl _ _).mono ?_;rintro e w' ⟨rfl,rfl⟩))
 go_ret
 exact ⟨zqf HE.out.symm,bl_⟩
end Go.Proofs.YtdbmkfmenfcbiaaGreat

/- AllF · SwLaw: each text proves what its theorems say, with no conditions but theirs. -/
import Derived.Test.YtdbmkfmenfcbiaaGreatRows
import Derived.Test.YtdbmkfmenfcbiaaGreatSSAll
import Derived.Test.YtdbmkfmenfcbiaaGreatSM1
import Derived.Test.YtdbmkfmenfcbiaaGreatSM3
namespace Go.Proofs.YtdbmkfmenfcbiaaGreat
open Go.RowKit Go.Deep
def psStep (b : Bk) (e : Event) (ps : List (Int × List Line)) : List (Int × List Line):=if (applyS b e).code = 0∧(applyS b e).l ≠ [] then ps ++ [(b.n,(applyS b e).l)] else ps
def allStep (s : Bk × List (Int × List Line) × List Int) (e : Event) : Bk × List (Int × List Line) × List Int:=(nextB s.1 e,psStep s.1 e s.2.1,s.2.2 ++ [(applyS s.1 e).code])
def allF (b : Bk) (es : List Event) : Bk × List (Int × List Line) × List Int:=es.foldl allStep (b,[],[])
theorem zwj : ∀ (es : List Event) (s : Bk × List (Int × List Line) × List Int),(es.foldl allStep s).2.2.length = s.2.2.length + es.length
  | [],_ => by simp
  | e :: es,s => by
    have h : (allStep s e).2.2.length = s.2.2.length + 1:=by
      unfold allStep
      simp
    rw [List.foldl_cons,zwj es (allStep s e),h,List.length_cons]
    omega
theorem zsp (b : Bk) (es : List Event) : (allF b es).2.2.length = es.length:=by
  have:=zwj es (b,[],[])
  simpa [allF] using this
end Go.Proofs.YtdbmkfmenfcbiaaGreat
namespace Go.Proofs.YtdbmkfmenfcbiaaGreat
open Go.RowKit Go.Deep
theorem zsq {bt bn bw : Int} {cs : List Chan} {hs : List Htlc} {os : List Circle} (h1 : 0 ≤ bt∧bt ≤ 1125899906842624) (h2 : 0 ≤ bw∧bw ≤ 1125899906842624) (h3 : 1 ≤ bn∧bn ≤ 1125899906842624) (h4 : cs.length ≤ 20) (h5 : hs.length ≤ 60) (h6 : os.length ≤ 20) (h7 : partsB cs hs os = true) (h8 : ∀ c ∈ cs,chB hs os c = true) (h9 : cs.Pairwise (fun p q => p.Id < q.Id)) : bookB bt bn bw cs hs os = true:=by
 simp only [bookB,Bool.and_eq_true,zxy,zxx,decide_eq_true_eq]
 refine ⟨⟨⟨⟨⟨⟨⟨h1,h2⟩,h3⟩,h4⟩,h5⟩,h6⟩,h7⟩,everyTo_iff.2 fun i hi => ?_⟩
 cases i with
 | zero => rw [zkd hi];exact h8 _ (List.getElem_mem hi)
 | succ j =>
  rw [zjz hi (by omega),Bool.and_eq_true,decide_eq_true_eq]
  exact ⟨h8 _ (List.getElem_mem hi),List.pairwise_iff_getElem.1 h9 j (j + 1) (by omega) hi (by omega)⟩
theorem zpv {cs : List Chan} {x : Int} {i : Nat} (hi : chanIx cs x = (i : Int)) : ∃ h : i < cs.length,cs[i].Id = x:=by
 unfold chanIx at hi
 split at hi
 ·
  rename_i j hj
  obtain ⟨hj1,hj2,_⟩:=List.findIdx?_eq_some_iff_getElem.1 hj
  have : j = i:=by omega
  subst this
  exact ⟨hj1,by simpa [notId] using hj2⟩
 ·
  omega
def atC (x : Int) (f : Chan → Chan) (c : Chan) : Chan:=if c.Id = x then f c else c
theorem zha {cs : List Chan} (hp : cs.Pairwise (fun p q => p.Id < q.Id)) {x : Int} (hx : 0 ≤ chanIx cs x) (f : Chan → Chan) : setCh cs x f = cs.map (atC x f):=by
 obtain ⟨i,hi⟩:=Int.eq_ofNat_of_zero_le hx
 obtain ⟨hl,hid⟩:=zpv hi
 unfold setCh
 rw [hi,Int.toNat_natCast]
 refine List.ext_getElem (by simp) fun j h1 h2 => ?_
 have hj : j < cs.length:=by simpa using h2
 rw [List.getElem_modify,List.getElem_map]
 unfold atC
 by_cases hij : i = j
 ·
  subst hij
  rw [if_pos rfl,if_pos hid]
 ·
  rw [if_neg hij,if_neg]
  intro e
  rcases Nat.lt_or_gt_of_ne hij with h | h
  ·
   have:=List.pairwise_iff_getElem.1 hp i j hl hj h
   omega
  ·
   have:=List.pairwise_iff_getElem.1 hp j i hj hl h
   omega
theorem zku {g : Chan → Chan} (hg : ∀ c,(g c).Id = c.Id) (cs : List Chan) (x : Int) : chanIx (cs.map g) x = chanIx cs x:=by
 have e : ((fun c => !notId x c) ∘ g) = fun c => !notId x c:=by funext c;simp [notId,hg]
 unfold chanIx
 rw [List.findIdx?_map,e]
theorem zwf {g : Chan → Chan} (hg : ∀ c,(g c).Id = c.Id) {cs : List Chan} (hp : cs.Pairwise (fun p q => p.Id < q.Id)) : (cs.map g).Pairwise (fun p q => p.Id < q.Id):=by
 rw [List.pairwise_map]
 simpa only [hg] using hp
theorem zyj {x : Int} {f : Chan → Chan} (hf : ∀ c,(f c).Id = c.Id) (c : Chan) : (atC x f c).Id = c.Id:=by
 unfold atC
 split
 ·
  exact hf c
 ·
  rfl
def failC (h : Htlc) (c : Chan) : Chan:=atC h.In scoreDown (atC h.Out (moveF h.AmtOut 0) (atC h.In (moveF 0 h.AmtIn) c))
theorem zwb (h : Htlc) (c : Chan) : (failC h c).Id = c.Id:=by
 unfold failC
 rw [zyj (f:=scoreDown) (fun _ => rfl),zyj (f:=moveF h.AmtOut 0) (fun _ => rfl),zyj (f:=moveF 0 h.AmtIn) (fun _ => rfl)]
theorem zgf {cs : List Chan} {h : Htlc} (hp : cs.Pairwise (fun p q => p.Id < q.Id)) (hi : 0 ≤ chanIx cs h.In) (ho : 0 ≤ chanIx cs h.Out) : setCh (moveC (moveC cs h.In 0 h.AmtIn) h.Out h.AmtOut 0) h.In scoreDown = cs.map (failC h):=by
 have g1 : ∀ c,(atC h.In (moveF 0 h.AmtIn) c).Id = c.Id:=zyj fun _ => rfl
 have g2 : ∀ c,(atC h.Out (moveF h.AmtOut 0) c).Id = c.Id:=zyj fun _ => rfl
 have e1 : moveC cs h.In 0 h.AmtIn = cs.map (atC h.In (moveF 0 h.AmtIn)):=zha hp hi _
 have e2 : moveC (cs.map (atC h.In (moveF 0 h.AmtIn))) h.Out h.AmtOut 0 = (cs.map (atC h.In (moveF 0 h.AmtIn))).map (atC h.Out (moveF h.AmtOut 0)):=zha (zwf g1 hp) (by rw [zku g1];exact ho) _
 rw [e1,e2,zha (zwf g2 (zwf g1 hp)) (by rw [zku g2,zku g1];exact hi),List.map_map,List.map_map]
 rfl
theorem zmk {h : Htlc} (hne : h.In ≠ h.Out) (c : Chan) : (failC h c).Local = c.Local + pickF h.Out h.AmtOut c.Id∧(failC h c).Remote = c.Remote + pickF h.In h.AmtIn c.Id∧(failC h c).Base = c.Base∧(failC h c).Ppm = c.Ppm∧(failC h c).Size = c.Size∧((failC h c).Score = c.Score ∨ (failC h c).Score = downF c.Score):=by
 by_cases h1 : c.Id = h.In
 ·
  have h2 : ¬ c.Id = h.Out:=fun e => hne (by rw [← h1,e])
  have e : failC h c = scoreDown (moveF 0 h.AmtIn c):=by
   unfold failC
   have a : atC h.In (moveF 0 h.AmtIn) c = moveF 0 h.AmtIn c:=if_pos h1
   have b : atC h.Out (moveF h.AmtOut 0) (moveF 0 h.AmtIn c) = moveF 0 h.AmtIn c:=if_neg h2
   have d : atC h.In scoreDown (moveF 0 h.AmtIn c) = scoreDown (moveF 0 h.AmtIn c):=if_pos h1
   rw [a,b,d]
  rw [e]
  have p1 : pickF h.Out h.AmtOut c.Id = 0:=if_neg (by simpa using fun e => h2 e.symm)
  have p2 : pickF h.In h.AmtIn c.Id = h.AmtIn:=if_pos (by simpa using h1.symm)
  rw [p1,p2]
  exact ⟨rfl,rfl,rfl,rfl,rfl,.inr rfl⟩
 ·
  have p2 : pickF h.In h.AmtIn c.Id = 0:=if_neg (by simpa using fun e => h1 e.symm)
  have a : atC h.In (moveF 0 h.AmtIn) c = c:=if_neg h1
  by_cases h2 : c.Id = h.Out
  ·
   have e : failC h c = moveF h.AmtOut 0 c:=by
    unfold failC
    have b : atC h.Out (moveF h.AmtOut 0) c = moveF h.AmtOut 0 c:=if_pos h2
    have d : atC h.In scoreDown (moveF h.AmtOut 0 c) = moveF h.AmtOut 0 c:=if_neg h1
    rw [a,b,d]
   have p1 : pickF h.Out h.AmtOut c.Id = h.AmtOut:=if_pos (by simpa using h2.symm)
   rw [e,p1,p2]
   exact ⟨rfl,rfl,rfl,rfl,rfl,.inl rfl⟩
  ·
   have e : failC h c = c:=by
    unfold failC
    have b : atC h.Out (moveF h.AmtOut 0) c = c:=if_neg h2
    have d : atC h.In scoreDown c = c:=if_neg h1
    rw [a,b,d]
   have p1 : pickF h.Out h.AmtOut c.Id = 0:=if_neg (by simpa using fun e => h2 e.symm)
   rw [e,p1,p2]
   exact ⟨by omega,by omega,rfl,rfl,rfl,.inl rfl⟩
theorem keys_iff {ks : List Int} : everyTo ks.length (keyAt ks) = true ↔ (∀ k ∈ ks,inB k 1 1000000 = true)∧ks.Nodup:=by
 constructor
 ·
  intro h
  refine ⟨fun k hk => ?_,List.pairwise_iff_getElem.2 fun i j hi hj hij => zgm h hij hj⟩
  obtain ⟨i,hi,rfl⟩:=List.mem_iff_getElem.1 hk
  have:=everyTo_iff.1 h i hi
  rw [zvj hi,Bool.and_eq_true] at this
  exact this.1
 ·
  rintro ⟨h1,h2⟩
  refine everyTo_iff.2 fun i hi => ?_
  rw [zvj hi,Bool.and_eq_true]
  refine ⟨h1 _ (List.getElem_mem hi),?_⟩
  cases hh : hasB (ks.take i) ks[i]
  ·
   rfl
  ·
   unfold hasB at hh
   rw [List.any_eq_true] at hh
   obtain ⟨x,hx,he⟩:=hh
   obtain ⟨j,hj,rfl⟩:=List.mem_take_iff_getElem.1 hx
   exact absurd (eq_of_beq he) (List.pairwise_iff_getElem.1 h2 j i (by omega) hi (by omega))
theorem ztp {α : Type} (f : α → Int) {l : List α} {i : Nat} (hi : i < l.length) : (l.map f).sum = ((l.eraseIdx i).map f).sum + f l[i]:=by
 have e:=zye hi
 have h : (l.map f).sum = ((l.take i ++ l[i] :: l.drop (i + 1)).map f).sum:=by rw [← e]
 rw [h,List.eraseIdx_eq_take_drop_succ,List.map_append,List.map_append,List.map_cons,List.sum_append,List.sum_append,List.sum_cons]
 omega
theorem zta {hs : List Htlc} {i : Nat} (hi : i < hs.length) (os : List Circle) (ch : Int) : outOf hs os ch = outOf (hs.eraseIdx i) os ch + pickF hs[i].Out hs[i].AmtOut ch:=by
 rw [zyz,zyz,ztp (fun h : Htlc => pickF h.Out h.AmtOut ch) hi]
 omega
theorem in_erase {hs : List Htlc} {i : Nat} (hi : i < hs.length) (os : List Circle) (ch : Int) : inOf hs os ch = inOf (hs.eraseIdx i) os ch + pickF hs[i].In hs[i].AmtIn ch:=by
 rw [zmo,zmo,ztp (fun h : Htlc => pickF h.In h.AmtIn ch) hi]
 omega
theorem ztc {x a ch : Int} (h : 0 ≤ a) : 0 ≤ pickF x a ch:=by
 unfold pickF
 split <;> omega
theorem downF_in {n : Int} (h : -100 ≤ n∧n ≤ 100) : -100 ≤ downF n∧downF n ≤ 100:=by
 unfold downF
 rw [if_pos (zxx.2 h)]
 omega
def totB (b : Bk) : Int:=b.cs.foldl (totF b.hs b.os) b.w
theorem zmq (b : Bk) : totB b = b.w + (b.cs.map (fun c => c.Local + outOf b.hs b.os c.Id)).sum:=by
 have e : totF b.hs b.os = fun n c => n + (c.Local + outOf b.hs b.os c.Id):=rfl
 unfold totB
 rw [e,zjv]
theorem fail_ok {b : Bk} (hb : b.ok = true) {i : Nat} (hi : i < b.hs.length) (hn : b.n < 1125899906842624) : (⟨b.t,b.n + 1,b.w,b.cs.map (failC b.hs[i]),b.hs.eraseIdx i,b.os⟩ : Bk).ok = true∧totB ⟨b.t,b.n + 1,b.w,b.cs.map (failC b.hs[i]),b.hs.eraseIdx i,b.os⟩ = totB b:=by
 have hF:=zxp hb
 have hp:=zmn hb
 have hparts:=hF.parts
 simp only [partsB,Bool.and_eq_true] at hparts
 obtain ⟨⟨ph,po⟩,pk⟩:=hparts
 have hh:=List.all_eq_true.1 ph _ (List.getElem_mem hi)
 simp only [htlcB,twoB,Bool.and_eq_true,bne_iff_ne,decide_eq_true_eq,zxy,zxx] at hh
 obtain ⟨⟨⟨⟨⟨hne,hin⟩,hout⟩,ha1⟩,ha2⟩,-⟩:=hh
 have hix : ∀ x,chanIx (b.cs.map (failC b.hs[i])) x = chanIx b.cs x:=zku (zwb _) b.cs
 have eh : htlcB (b.cs.map (failC b.hs[i])) = htlcB b.cs:=by funext x;unfold htlcB twoB;rw [hix,hix]
 have eo : circB (b.cs.map (failC b.hs[i])) = circB b.cs:=by funext x;unfold circB twoB;rw [hix,hix]
 have sub : (b.hs.eraseIdx i).Sublist b.hs:=List.eraseIdx_sublist ..
 have parts' : partsB (b.cs.map (failC b.hs[i])) (b.hs.eraseIdx i) b.os = true:=by
  simp only [partsB,Bool.and_eq_true]
  rw [eh,eo]
  refine ⟨⟨List.all_eq_true.2 fun x hx => List.all_eq_true.1 ph x (sub.subset hx),po⟩,?_⟩
  have hk:=keys_iff.1 pk
  have subk : (keysOf (b.hs.eraseIdx i) b.os).Sublist (keysOf b.hs b.os):=(sub.map Htlc.Key).append (List.Sublist.refl _)
  exact keys_iff.2 ⟨fun k hk' => hk.1 k (subk.subset hk'),hk.2.sublist subk⟩
 have l1 : (b.hs.eraseIdx i).length ≤ 60:=Nat.le_trans sub.length_le hF.small.hl
 have sm:=zkh parts' l1 hF.small.ol
 constructor
 ·
  refine zsq hF.t hF.w (by have:=hF.n;simp only;omega) (by simpa using hF.cl) l1 hF.small.ol parts' (fun c' hc' => ?_) (zwf (zwb _) hp)
  obtain ⟨c,hc,rfl⟩:=List.mem_map.1 hc'
  obtain ⟨j,hj,rfl⟩:=List.mem_iff_getElem.1 hc
  have h0:=hF.ch j hj
  obtain ⟨f1,f2,f3,f4,f5,f6⟩:=zmk hne b.cs[j]
  have o1:=zta hi b.os b.cs[j].Id
  have o2:=in_erase hi b.os b.cs[j].Id
  have o3:=(sm.out_bd b.cs[j].Id).1
  have o4:=(sm.in_bd b.cs[j].Id).1
  have o5:=ztc (x:=b.hs[i].Out) (ch:=b.cs[j].Id) (show 0 ≤ b.hs[i].AmtOut by omega)
  have o6:=ztc (x:=b.hs[i].In) (ch:=b.cs[j].Id) ha1.1
  simp only [chB,Bool.and_eq_true,zwr,zxy,zxx,beq_iff_eq] at h0 ⊢
  rw [zwb,f1,f2,f3,f4,f5]
  obtain ⟨⟨⟨⟨⟨⟨⟨k1,k2⟩,k3⟩,k4⟩,k5⟩,k6⟩,k7⟩,k8⟩:=h0
  refine ⟨⟨⟨⟨⟨⟨⟨k1,by omega⟩,by omega⟩,k4⟩,k5⟩,?_⟩,k7⟩,by omega⟩
  rcases f6 with f6 | f6
  ·
   rw [f6];exact k6
  ·
   rw [f6];exact downF_in k6
 ·
  rw [zmq,zmq]
  simp only [List.map_map]
  have e : b.cs.map ((fun c : Chan => c.Local + outOf (b.hs.eraseIdx i) b.os c.Id) ∘ failC b.hs[i]) = b.cs.map (fun c => c.Local + outOf b.hs b.os c.Id):=by
   refine List.map_congr_left fun c _ => ?_
   obtain ⟨f1,_⟩:=zmk hne c
   have o1:=zta hi b.os c.Id
   simp only [Function.comp_apply,zwb]
   rw [f1]
   omega
  rw [e]
theorem nz_two {k c a k' c' a' : Int} (h : a ≠ 0) (h' : a' ≠ 0) : nz [⟨k,c,a⟩,⟨k',c',a'⟩] = [⟨k,c,a⟩,⟨k',c',a'⟩]:=by
 unfold nz
 simp [h,h']
theorem zgg {b : Bk} (hb : b.ok = true) {h : Htlc} (hm : h ∈ b.hs) (hn : b.n < 1125899906842624) : ∃ (b' : Bk) (l : List Line),applyS b (evOf h.Key) = ⟨0,b',l⟩∧l ≠ []∧b'.ok = true∧b'.n = b.n + 1∧(∀ x ∈ b'.hs,x ∈ b.hs∧x.Key ≠ h.Key)∧(∀ x ∈ b.hs,x.Key ≠ h.Key → x ∈ b'.hs)∧totB b' = totB b:=by
 have hF:=zxp hb
 have hp:=zmn hb
 have hparts:=hF.parts
 simp only [partsB,Bool.and_eq_true] at hparts
 obtain ⟨⟨ph,-⟩,pk⟩:=hparts
 have hk:=(keys_iff.1 pk).1 h.Key (List.mem_append.2 (.inl (List.mem_map.2 ⟨h,hm,rfl⟩)))
 rw [zxx] at hk
 have h0 : ¬ hAt b.hs h.Key < 0:=fun h' => zgh h' h hm rfl
 obtain ⟨i,hi⟩:=Int.eq_ofNat_of_zero_le (show 0 ≤ hAt b.hs h.Key by omega)
 obtain ⟨hl,hkey⟩:=zhy hi
 have hh : b.hs[i] = h:=by
  obtain ⟨j,hj,rfl⟩:=List.mem_iff_getElem.1 hm
  rcases Nat.lt_trichotomy i j with h' | h' | h'
  ·
   exact absurd hkey (hs_ne hF h' hj)
  ·
   subst h';rfl
  ·
   exact absurd hkey.symm (hs_ne hF h' hl)
 obtain ⟨f1,f2⟩:=zmm hF hi hl
 rw [hh] at f1
 have hfin:=List.all_eq_true.1 ph _ hm
 simp only [htlcB,twoB,Bool.and_eq_true,bne_iff_ne,decide_eq_true_eq,zxy,zxx] at hfin
 obtain ⟨⟨⟨⟨⟨hne,hin⟩,hout⟩,ha1⟩,ha2⟩,-⟩:=hfin
 have ev : evB (evOf h.Key) = true:=by
  unfold evB evOf
  simp only
  rw [if_neg (by decide),if_neg (by decide),if_neg (by decide),if_neg (by decide),if_neg (by decide),if_neg (by decide),if_neg (by decide),if_pos (by decide)]
  simp only [Bool.and_eq_true,zxx]
  exact ⟨⟨⟨⟨⟨hk,rfl⟩,rfl⟩,rfl⟩,rfl⟩,rfl⟩
 have ha : applyS b (evOf h.Key) = settleS b h.Key false:=by
  rw [zwa (by rw [hb,ev];rfl) (by omega)]
  simp [stepS,evOf]
 rw [ha,zvw f1 (by omega),nz_two (by omega) (by omega),zgf hp hin hout]
 have hfo:=fail_ok hb hl hn
 rw [hh] at hfo
 have hmem : ∀ x,x ∈ b.hs.filter (notKeyH h.Key) ↔ x ∈ b.hs∧x.Key ≠ h.Key:=fun x => by simp [List.mem_filter,notKeyH]
 refine ⟨_,_,rfl,by simp,?_,?_,fun x hx => (hmem x).1 hx,fun x hx hne' => (hmem x).2 ⟨hx,hne'⟩,?_⟩
 ·
  rw [f2];exact hfo.1
 ·
  simp
 ·
  rw [f2];exact hfo.2
theorem zpf {b b' : Bk} {e : Event} {l : List Line} (h : applyS b e = ⟨0,b',l⟩) : nextB b e = b':=by
 unfold nextB
 rw [h,if_pos rfl]
theorem zhw : ∀ (K : List Int) (b : Bk) (ps : List (Int × List Line)) (cs : List Int),b.ok = true → b.n + (K.length : Int) ≤ 1125899906842624 → (∀ k ∈ K,∃ h ∈ b.hs,h.Key = k) → K.Nodup →
  ∃ (b' : Bk) (ps' : List (Int × List Line)),(K.map evOf).foldl allStep (b,ps,cs) = (b',ps ++ ps',cs ++ K.map (fun _ => 0))∧b'.ok = true∧(∀ h ∈ b'.hs,h ∈ b.hs∧h.Key ∉ K)∧totB b' = totB b∧ps'.length = K.length
 | [],b,ps,cs,hb,_,_,_ => ⟨b,[],by simp,hb,fun h hh => ⟨hh,by simp⟩,rfl,rfl⟩
 | k :: K,b,ps,cs,hb,hn,hK,hnd => by
  rw [List.length_cons] at hn
  obtain ⟨h,hm,rfl⟩:=hK k (by simp)
  obtain ⟨b1,l1,e1,e2,e3,e4,e5,e6,e7⟩:=zgg hb hm (by omega)
  obtain ⟨n1,n2⟩:=List.nodup_cons.1 hnd
  have st : allStep (b,ps,cs) (evOf h.Key) = (b1,ps ++ [(b.n,l1)],cs ++ [0]):=by
   unfold allStep psStep
   simp only
   rw [zpf e1,e1]
   simp only
   rw [if_pos ⟨trivial,e2⟩]
  obtain ⟨b',ps',r1,r2,r3,r4,r5⟩:=zhw K b1 (ps ++ [(b.n,l1)]) (cs ++ [0]) e3 (by omega) (fun k' hk' => by
   obtain ⟨x,hx,hxk⟩:=hK k' (by simp [hk'])
   exact ⟨x,e6 x hx (fun e => n1 (by rw [← e,hxk];exact hk')),hxk⟩) n2
  refine ⟨b',(b.n,l1) :: ps',?_,r2,fun x hx => ?_,r4.trans e7,by simp [r5]⟩
  ·
   rw [List.map_cons,List.foldl_cons,st,r1]
   simp
  ·
   obtain ⟨q1,q2⟩:=r3 x hx
   obtain ⟨q3,q4⟩:=e5 x q1
   refine ⟨q3,?_⟩
   rw [List.mem_cons]
   rintro (h' | h')
   ·
    exact q4 h'
   ·
    exact q2 h'
theorem zmr {b : Bk} (hb : b.ok = true) (age : Int) : (agedF age b.hs).Nodup:=by
 have hF:=zxp hb
 have hparts:=hF.parts
 simp only [partsB,Bool.and_eq_true] at hparts
 have hk:=(keys_iff.1 hparts.2).2
 have s1 : (b.hs.map Htlc.Key).Nodup:=hk.sublist (List.sublist_append_left _ _)
 exact s1.sublist ((List.filter_sublist ..).map Htlc.Key)
theorem zsk {b : Bk} (hb : b.ok = true) (age : Int) (hn : b.n + ((agedF age b.hs).length : Int) < 1125899906842624) :
  (∀ c ∈ (allF b ((agedF age b.hs).map evOf)).2.2,c = 0)∧(allF b ((agedF age b.hs).map evOf)).1.ok = true∧agedF age (allF b ((agedF age b.hs).map evOf)).1.hs = []∧totB (allF b ((agedF age b.hs).map evOf)).1 = totB b∧(allF b ((agedF age b.hs).map evOf)).2.1.length = (agedF age b.hs).length:=by
 obtain ⟨b',ps',r1,r2,r3,r4,r5⟩:=zhw (agedF age b.hs) b [] [] hb (by omega) (fun k hk => by
  unfold agedF at hk
  obtain ⟨h,hh,rfl⟩:=List.mem_map.1 hk
  exact ⟨h,(List.mem_filter.1 hh).1,rfl⟩) (zmr hb age)
 unfold allF
 rw [r1]
 refine ⟨fun c hc => ?_,r2,?_,r4,by simpa using r5⟩
 ·
  simp only [List.nil_append,List.mem_map] at hc
  obtain ⟨_,_,rfl⟩:=hc
  rfl
 ·
  have : b'.hs.filter (fun h => decide (age ≤ h.Age)) = []:=by
   rw [List.filter_eq_nil_iff]
   intro h hh hd
   obtain ⟨q1,q2⟩:=r3 h hh
   refine q2 ?_
   unfold agedF
   exact List.mem_map.2 ⟨h,List.mem_filter.2 ⟨q1,hd⟩,rfl⟩
  unfold agedF
  simp only
  rw [this]
  rfl
end Go.Proofs.YtdbmkfmenfcbiaaGreat

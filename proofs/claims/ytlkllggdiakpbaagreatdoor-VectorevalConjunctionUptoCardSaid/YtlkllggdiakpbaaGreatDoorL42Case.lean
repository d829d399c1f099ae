/- Law 42: in, call, case over a scope. -/
import Derived.Test.YtlkllggdiakpbaaGreatDoorL42Bin
set_option linter.unusedVariables false
set_option linter.unusedSimpArgs false
namespace Go.Proofs.Tryz
open Go.Eng
theorem vec_eta1 (t : Int) (l : List Val) : Vec.mk t (vecOf t l).ints (vecOf t l).texts (vecOf t l).nulls = vecOf t l := rfl
/-! ## in -/
theorem orL_char : ∀ (l : List Val) (u : Bool), orL u l = bif l.any isT then vbool true else bif u || l.any (fun v => !isF v) then zVal else vbool false
 | [], u => by simp [orL]
 | v :: l, u => by
  rw [orL, orL_char l]
  cases h : isT v with
  | true => simp [h]
  | false =>
   cases hf : isF v <;> cases u <;> simp [h, hf]
theorem orL_snoc (l : List Val) (v : Val) : orL false [orL false l, v] = orL false (l ++ [v]) := by
 rw [orL_char l, orL_char (l ++ [v]), List.any_append, List.any_append]
 cases h1 : l.any isT with
 | true =>
  simp only [Bool.true_or, cond_true]
  rfl
 | false =>
  cases h2 : l.any (fun v => !isF v) <;> cases h3 : isT v <;> cases h4 : isF v <;> simp [or2x, h3, h4, isT, isF, vbool, zVal]
theorem in_run {C : Tabl} {L : Nat} {g : G33} {e : Ex} {s : List Int} (h : Tab C L) (hs : Selc L s) (hw : WT (tys42 C) e) (hk : e.kind = 7) (hg : ∀ a ∈ e.args, Sp C L g a) :
  (F59 g).run [PK.v (Ty.nm 4), PK.v (Ty.nm 1)] [RK.v (Ty.nm 3)] 4000000 (⟨cols C, s⟩, e, ()) = some ((vecOf e.f_Type (EV C s e), ()), ()) := by
 have h2 := hw.ge hk
 have hflat := hw.inv.1.args
 have m0 := getD_mem (show 0 < e.args.length by omega) zEx
 generalize ha : e.args.getD 0 zEx = a at m0
 have ca := EV_col h hs (hw.inv.2.2 a m0)
 have la := EV_len C s a
 have hlen := hs.few
 have ht : e.f_Type = 1 := by
  have hb := hw.inv.2.1
  unfold btype at hb
  rw [cdf (by omega), cdf (by omega), cdf (by omega), cdf (by omega), cdf (by omega), cdf (by omega), cdt hk] at hb
  exact (Prod.mk.inj hb).1.symm
 have hev : ∀ r, ev r e = orL false ((e.args.drop 1).map fun x => vtest 1 (ev r a) (ev r x)) := fun r => by
  rw [ev_eq, evN, if_neg (by omega), if_neg (by omega), if_neg (by omega), if_neg (by omega), if_neg (by omega), if_neg (by omega), if_pos hk]
  unfold vIn
  rw [arg_get (by omega), ha, ← List.map_drop, List.map_map]
  rfl
 have hx : List.drop (Int.toNat 1) (List.take ((e.args.length : Int)).toNat e.args) = e.args.drop 1 := by rw [Int.toNat_natCast, List.take_length]; rfl
 have hmem : ∀ x ∈ e.args.drop 1, x ∈ e.args := fun x hx => List.mem_of_mem_drop hx
 rw [F59_run, if_pos (by omega), show Int.toNat 0 = 0 from rfl, ha, bnd (hg a m0 s hs)]
 simp only []
 rw [bnd (const_run (t := 1) (v := ⟨1, 0, []⟩) (by unfold isTyp; omega) (.inr rfl) (show s.length ≤ 1000000 by omega)), if_pos (by omega), if_pos (by omega), hx]
 have hl : (e.args.drop 1).length ≤ 1000000 := by rw [List.length_drop]; omega
 generalize e.args.drop 1 = l at hev hmem hl
 let acc : List Ex → List Val := fun k => (List.range s.length).map fun j => orL false (k.map fun x => vtest 1 (ev (rowOf C (s.getD j 0).toNat) a) (ev (rowOf C (s.getD j 0).toNat) x))
 have accl : ∀ k, (acc k).length = s.length := fun k => by simp [acc]
 have accg : ∀ k j, j < s.length → (acc k).getD j zVal = orL false (k.map fun x => vtest 1 (ev (rowOf C (s.getD j 0).toNat) a) (ev (rowOf C (s.getD j 0).toNat) x)) := fun k j hj => by
  rw [getD_eq (by rw [accl]; exact hj)]
  simp only [acc, List.getElem_map, List.getElem_range]
 have accc : ∀ k, Col 1 (acc k) := fun k => ⟨by unfold isTyp; omega, fun v hv => by obtain ⟨j, _, rfl⟩ := List.mem_map.1 hv; exact valid_or _ _, fun v hv => by obtain ⟨j, _, rfl⟩ := List.mem_map.1 hv; exact kk_or _ _⟩
 have acc0 : vecOf 1 (List.replicate s.length ⟨1, 0, []⟩) = vecOf 1 (acc []) := by
  congr 1
  apply List.ext_getElem
  ·simp [acc]
  ·intro i h1 h2; simp only [List.getElem_replicate, acc, List.getElem_map]; rfl
 obtain ⟨r, e1, rfl⟩ : ∃ r, F59c4 g 4000000 l (l.length : Int) 0 ⟨cols C, s⟩ 0 (vecOf a.f_Type (EV C s a)).f_Type (vecOf a.f_Type (EV C s a)).ints (vecOf a.f_Type (EV C s a)).texts (vecOf a.f_Type (EV C s a)).nulls 1 [] [] [] (vecOf 1 (acc [])).ints (vecOf 1 (acc [])).texts (vecOf 1 (acc [])).nulls = some r ∧ r = ((vecOf 1 (acc l), ()), ()) := by
  exact loop (fun n i (k : List Ex) => F59c4 g n l (l.length : Int) i ⟨cols C, s⟩ 0 (vecOf a.f_Type (EV C s a)).f_Type (vecOf a.f_Type (EV C s a)).ints (vecOf a.f_Type (EV C s a)).texts (vecOf a.f_Type (EV C s a)).nulls 1 [] [] [] (vecOf 1 (acc k)).ints (vecOf 1 (acc k)).texts (vecOf 1 (acc k)).nulls) l.length 1 0 (fun i k => k = l.take i) (fun r => r = ((vecOf 1 (acc l), ()), ()))
   (fun n k _ hk => by
    rw [List.take_length] at hk
    subst hk
    exact ⟨_, by rw [F59c4_eq, cdf (by omega), vec_eta1], rfl⟩)
   (fun n i k hi hk => by
    have hm := hmem _ (getD_mem hi zEx)
    have cx := EV_col h hs (hw.inv.2.2 _ hm)
    have lx := EV_len C s (l.getD i zEx)
    have ct : Col 1 (tst 1 (EV C s a) (EV C s (l.getD i zEx))) := ⟨by unfold isTyp; omega, fun v hv => by obtain ⟨j, _, rfl⟩ := List.mem_map.1 hv; exact valid_test _ _ _, fun v hv => by obtain ⟨j, _, rfl⟩ := List.mem_map.1 hv; exact kk_test _ _ _⟩
    refine .inl ⟨n, k ++ [l.getD i zEx], Nat.le_refl _, ?_, by rw [List.take_succ_eq_append_getElem hi, hk, getD_eq hi]⟩
    rw [F59c4_eq, cdt (by omega), gd hi, Int.toNat_natCast, bnd (hg _ hm s hs)]
    simp only [vec_eta]
    rw [bnd (test_run (by omega) ca cx (by omega) (by omega))]
    simp only []
    rw [vec_eta1, bnd (junction_run (.inr rfl) (accc k) ct (by rw [accl, tst_len, la]) (by rw [accl]; omega)), w1 (by omega)]
    have : (List.range (acc k).length).map (fun j => jun 1 ((acc k).getD j zVal) ((tst 1 (EV C s a) (EV C s (l.getD i zEx))).getD j zVal)) = acc (k ++ [l.getD i zEx]) := by
     rw [accl]
     apply List.map_congr_left
     intro j hj
     have hj := List.mem_range.1 hj
     rw [accg k j hj, tst_get (by omega), EV_get hj, EV_get hj, List.map_append]
     exact orL_snoc _ _
    rw [this]
    rfl) l.length 4000000 0 [] (by omega) (by omega) (by omega) rfl
 rw [ht, show EV C s e = acc l from (EV_range fun j hj => by rw [hev]).symm]
 rw [acc0]
 exact e1
end Go.Proofs.Tryz

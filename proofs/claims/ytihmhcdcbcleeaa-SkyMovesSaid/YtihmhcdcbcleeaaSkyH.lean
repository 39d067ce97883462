/- Fluxes cell by cell, and what a merged sky has. -/
import Derived.Test.YtihmhcdcbcleeaaQ6
import Derived.Test.YtihmhcdcbcleeaaSkyB
import Derived.Test.YtihmhcdcbcleeaaSkyD
namespace Go.Proofs.Ytihmhcdcbcleeaa.Pure
open Go.RowKit Go.Proofs.YtihmhcdcbcleeaaW.PrintWords Go.Proofs.YtihmhcdcbcleeaaW.PrintLast Go.Proofs.YtihmhcdcbcleeaaW.PrintMore Go.Proofs.Ytihmhcdcbcleeaa.Open Go.Proofs.Ytihmhcdcbcleeaa.Q Go.Proofs.Ytihmhcdcbcleeaa.Aid
def at_ (s : S33) : Nat := s.f1.toNat * 8 + s.f0.toNat
def fl (l : List S33) (n : Nat) : Int := l.foldr (fun s a => (if at_ s = n then s.f2 else 0) + a) 0
theorem fl_nil (n : Nat) : fl [] n = 0 := rfl
theorem fl_cons (s : S33) (l : List S33) (n : Nat) : fl (s :: l) n = (if at_ s = n then s.f2 else 0) + fl l n := rfl
theorem fl_append (l m : List S33) (n : Nat) : fl (l ++ m) n = fl l n + fl m n := by
  induction l with
  | nil => rw [List.nil_append, fl_nil, Int.zero_add]
  | cons s t ih => rw [List.cons_append, fl_cons, fl_cons, ih, Int.add_assoc]
theorem fl_bd {l : List S33} (hg : ∀ s ∈ l, lampOk s = true) (n : Nat) : 0 ≤ fl l n ∧ fl l n ≤ 1000 * l.length := by
  induction l with
  | nil => simp [fl_nil]
  | cons s t ih =>
    have h1 := ih (fun u hu => hg u (by simp [hu]))
    have h2 := ok33 (hg s (by simp))
    rw [fl_cons, List.length_cons]
    split <;> omega
def lampAt (v : Nat → Int) (n : Nat) : Option S33 := if v n > 0 then some ⟨((n % 8 : Nat) : Int), ((n / 8 : Nat) : Int), v n⟩ else none
def mg (v : Nat → Int) (ns : List Nat) : List S33 := ns.filterMap (lampAt v)
theorem mg_cons (v : Nat → Int) (n : Nat) (ns : List Nat) : mg v (n :: ns) = (if v n > 0 then [(⟨((n % 8 : Nat) : Int), ((n / 8 : Nat) : Int), v n⟩ : S33)] else []) ++ mg v ns := by
  unfold mg
  rw [List.filterMap_cons]
  unfold lampAt
  by_cases h : v n > 0
  · rw [if_pos h, if_pos h]; rfl
  · rw [if_neg h, if_neg h]; rfl
theorem mg_congr {v v' : Nat → Int} : ∀ {ns : List Nat}, (∀ n ∈ ns, v n = v' n) → mg v ns = mg v' ns
  | [], _ => rfl
  | n :: ns, h => by rw [mg_cons, mg_cons, h n (by simp), mg_congr (fun m hm => h m (by simp [hm]))]
def merged (l : List S33) : List S33 := mg (fl l) (List.range 64)
def MergeS (l : List S33) : List S33 × Int := if chk l = 0 then (if (List.range 64).all (fun n => decide (fl l n ≤ 1000)) then (merged l, 0) else ([], 16)) else ([], chk l)
theorem at_mk (n : Nat) (z : Int) : at_ ⟨((n % 8 : Nat) : Int), ((n / 8 : Nat) : Int), z⟩ = n := by
  unfold at_
  simp only [Int.toNat_natCast]
  omega
theorem fl_mg (v : Nat → Int) (n : Nat) : ∀ ns : List Nat, ns.Nodup → (∀ m ∈ ns, 0 ≤ v m) → fl (mg v ns) n = if n ∈ ns then v n else 0
  | [], _, _ => rfl
  | m :: ns, hd, hv => by
    have hd2 := List.nodup_cons.1 hd
    have ih := fl_mg v n ns hd2.2 (fun k hk => hv k (by simp [hk]))
    have h0 := hv m (by simp)
    rw [mg_cons, fl_append, ih]
    by_cases e : m = n
    · subst e
      rw [if_neg hd2.1, if_pos (show m ∈ m :: ns from List.mem_cons_self)]
      by_cases h : v m > 0
      · rw [if_pos h, fl_cons, at_mk, if_pos rfl, fl_nil]
        show v m + 0 + 0 = v m
        omega
      · rw [if_neg h, fl_nil]; omega
    · have e2 : (n ∈ m :: ns) = (n ∈ ns) := by rw [List.mem_cons]; exact propext ⟨fun h => h.resolve_left (fun h => e h.symm), Or.inr⟩
      simp only [e2]
      by_cases h : v m > 0
      · rw [if_pos h, fl_cons, at_mk, if_neg e, fl_nil, Int.add_zero, Int.zero_add]
      · rw [if_neg h, fl_nil, Int.zero_add]
theorem mg_len (s : S33) (l : List S33) (hg : ∀ t ∈ s :: l, lampOk t = true) : ∀ ns : List Nat, ns.Nodup → (mg (fl (s :: l)) ns).length ≤ (mg (fl l) ns).length + (if at_ s ∈ ns then 1 else 0)
  | [], _ => by simp [mg]
  | n :: ns, hd => by
    have hd2 := List.nodup_cons.1 hd
    have ih := mg_len s l hg ns hd2.2
    have h1 := fl_bd (l := l) (fun t ht => hg t (by simp [ht])) n
    rw [mg_cons, mg_cons, List.length_append, List.length_append, fl_cons]
    by_cases e : at_ s = n
    · subst e
      rw [if_neg hd2.1] at ih
      rw [if_pos (show at_ s = at_ s from rfl), if_pos (show at_ s ∈ at_ s :: ns from List.mem_cons_self)]
      split <;> split <;> simp <;> omega
    · have e2 : (at_ s ∈ n :: ns) = (at_ s ∈ ns) := by rw [List.mem_cons]; exact propext ⟨fun h => h.resolve_left e, Or.inr⟩
      simp only [e2, if_neg e, Int.zero_add]
      split <;> simp <;> omega
theorem merged_len {l : List S33} (hg : ∀ t ∈ l, lampOk t = true) : (merged l).length ≤ l.length := by
  unfold merged
  induction l with
  | nil =>
    have : mg (fl []) (List.range 64) = mg (fun _ => 0) (List.range 64) := mg_congr (fun _ _ => rfl)
    rw [this]
    exact Nat.le_of_eq (by decide)
  | cons s t ih =>
    have h := mg_len s t hg (List.range 64) List.nodup_range
    have := ih (fun u hu => hg u (by simp [hu]))
    rw [List.length_cons]
    split at h <;> omega
theorem merged_mem {v : Nat → Int} {ns : List Nat} {s : S33} (h : s ∈ mg v ns) : ∃ n ∈ ns, v n > 0 ∧ s = ⟨((n % 8 : Nat) : Int), ((n / 8 : Nat) : Int), v n⟩ := by
  obtain ⟨n, hn, he⟩ := List.mem_filterMap.1 h
  refine ⟨n, hn, ?_⟩
  unfold lampAt at he
  by_cases hv : v n > 0
  · rw [if_pos hv] at he; exact ⟨hv, (Option.some.inj he).symm⟩
  · rw [if_neg hv] at he; cases he
theorem mem_mg {v : Nat → Int} {ns : List Nat} {n : Nat} (hn : n ∈ ns) (h : v n > 0) : (⟨((n % 8 : Nat) : Int), ((n / 8 : Nat) : Int), v n⟩ : S33) ∈ mg v ns :=
  List.mem_filterMap.2 ⟨n, hn, by unfold lampAt; rw [if_pos h]⟩
theorem lampOk_iff' {s : S33} : lampOk s = true ↔ (0 ≤ s.f0 ∧ s.f0 < 8 ∧ 0 ≤ s.f1 ∧ s.f1 < 8 ∧ 0 ≤ s.f2 ∧ s.f2 ≤ 1000) := by simp only [lampOk, decide_eq_true_eq]
/-- A merged sky of few lamps is valid where no cell is too bright. -/
theorem merged_chk {l : List S33} (h : chk l = 0) : chk (merged l) = 0 ↔ (List.range 64).all (fun n => decide (fl l n ≤ 1000)) = true := by
  obtain ⟨h1, h2⟩ := chk_ok h
  have h3 := merged_len h2
  constructor
  · intro hc
    have h4 := (chk_ok hc).2
    refine List.all_eq_true.2 (fun n hn => decide_eq_true ?_)
    by_cases hv : fl l n > 0
    · have := lampOk_iff'.1 (h4 _ (mem_mg hn hv))
      simp only at this
      omega
    · omega
  · intro ha
    refine ok_chk (by omega) (fun s hs => ?_)
    obtain ⟨n, hn, hv, rfl⟩ := merged_mem hs
    have h5 := of_decide_eq_true (List.all_eq_true.1 ha n hn)
    have h6 := List.mem_range.1 hn
    refine lampOk_iff'.2 ?_
    simp only
    omega
theorem merged_fl {l : List S33} (hg : ∀ t ∈ l, lampOk t = true) {n : Nat} (hn : n < 64) : fl (merged l) n = fl l n := by
  unfold merged
  rw [fl_mg _ _ _ List.nodup_range (fun m _ => (fl_bd hg m).1), if_pos (List.mem_range.2 hn)]
theorem merged_merged {l : List S33} (hg : ∀ t ∈ l, lampOk t = true) : merged (merged l) = merged l :=
  mg_congr (fun _ hn => merged_fl hg (List.mem_range.1 hn))
/-! ### what is seen of a merged sky -/
def smc (u v : Int) (g : Nat → Int) : List Nat → Int × Int
  | [] => (0, 0)
  | n :: ns => ((rot (u * (((n % 8 : Nat) : Int) + 0) + v * (((n / 8 : Nat) : Int) + 0)) (g n, 0)).1 + (smc u v g ns).1, (rot (u * (((n % 8 : Nat) : Int) + 0) + v * (((n / 8 : Nat) : Int) + 0)) (g n, 0)).2 + (smc u v g ns).2)
theorem sm_mg (u v : Int) (g : Nat → Int) : ∀ ns : List Nat, (∀ n ∈ ns, 0 ≤ g n) → sm u v (mg g ns) 0 0 = smc u v g ns
  | [], _ => rfl
  | n :: ns, h => by
    have ih := sm_mg u v g ns (fun m hm => h m (by simp [hm]))
    have h0 := h n (by simp)
    rw [mg_cons, smc]
    by_cases c : g n > 0
    · rw [if_pos c, List.singleton_append, sm_cons, ih]
    · have e : g n = 0 := by omega
      rw [if_neg c, List.nil_append, ih, e, rot_zero]
      simp
theorem smc_add (u v : Int) (s : S33) (hs : lampOk s = true) (l : List S33) : ∀ ns : List Nat, ns.Nodup → smc u v (fl (s :: l)) ns = if at_ s ∈ ns then ((rot (u * (s.f0 + 0) + v * (s.f1 + 0)) (s.f2, 0)).1 + (smc u v (fl l) ns).1, (rot (u * (s.f0 + 0) + v * (s.f1 + 0)) (s.f2, 0)).2 + (smc u v (fl l) ns).2) else smc u v (fl l) ns
  | [], _ => by simp [smc]
  | n :: ns, hd => by
    have hd2 := List.nodup_cons.1 hd
    have ih := smc_add u v s hs l ns hd2.2
    have hk := lampOk_iff'.1 hs
    rw [smc, smc, fl_cons, ih]
    by_cases e : at_ s = n
    · subst e
      rw [if_neg hd2.1, if_pos (show at_ s = at_ s from rfl), if_pos (show at_ s ∈ at_ s :: ns from List.mem_cons_self)]
      have e0 : ((at_ s % 8 : Nat) : Int) = s.f0 := by unfold at_; omega
      have e1 : ((at_ s / 8 : Nat) : Int) = s.f1 := by unfold at_; omega
      rw [e0, e1]
      have e2 : rot (u * (s.f0 + 0) + v * (s.f1 + 0)) (s.f2 + fl l (at_ s), 0) = _ := rot_plus (u * (s.f0 + 0) + v * (s.f1 + 0)) s.f2 0 (fl l (at_ s)) 0
      rw [e2]
      simp only [Prod.mk.injEq]
      omega
    · have e2 : (at_ s ∈ n :: ns) = (at_ s ∈ ns) := by rw [List.mem_cons]; exact propext ⟨fun h => h.resolve_left e, Or.inr⟩
      simp only [e2, if_neg e, Int.zero_add]
      by_cases c : at_ s ∈ ns
      · rw [if_pos c, if_pos c]
        simp only [Prod.mk.injEq]
        omega
      · rw [if_neg c, if_neg c]
theorem smc_zero (u v : Int) : ∀ ns : List Nat, smc u v (fl []) ns = (0, 0)
  | [] => rfl
  | n :: ns => by rw [smc, smc_zero u v ns, fl_nil, rot_zero]; rfl
theorem smc_all (u v : Int) : ∀ l : List S33, (∀ s ∈ l, lampOk s = true) → smc u v (fl l) (List.range 64) = sm u v l 0 0
  | [], _ => smc_zero u v _
  | s :: l, h => by
    have hs := h s (by simp)
    have hk := lampOk_iff'.1 hs
    rw [smc_add u v s hs l _ List.nodup_range, if_pos (List.mem_range.2 (by unfold at_; omega)), smc_all u v l (fun t ht => h t (by simp [ht])), sm_cons]
theorem sm_merged (u v : Int) {l : List S33} (h : ∀ s ∈ l, lampOk s = true) : sm u v (merged l) 0 0 = sm u v l 0 0 := by
  unfold merged
  rw [sm_mg u v _ _ (fun n _ => (fl_bd h n).1), smc_all u v l h]
theorem visOf_merged (p : List S41) {l : List S33} (h : ∀ s ∈ l, lampOk s = true) : visOf p (merged l) 0 0 = visOf p l 0 0 := by
  unfold visOf visB
  simp only [sm_merged _ _ h]
end Go.Proofs.Ytihmhcdcbcleeaa.Pure

/- Several texts on the plain side in one: SkyD, SkyE, SkyF, SkyH, SkyI, SkyK. -/
import Derived.Test.YtihmhcdcbcleeaaQ16
import Derived.Test.YtihmhcdcbcleeaaQ18
import Derived.Test.YtihmhcdcbcleeaaSkyB
import Derived.Test.YtihmhcdcbcleeaaQ29
import Derived.Test.YtihmhcdcbcleeaaQ10
import Derived.Test.YtihmhcdcbcleeaaAid
import Derived.Test.YtihmhcdcbcleeaaQ6
import Derived.Test.YtihmhcdcbcleeaaQ7
import Derived.Test.YtihmhcdcbcleeaaQ30
namespace Go.Proofs.Ytihmhcdcbcleeaa.Pure
open Go.RowKit Go.Proofs.YtihmhcdcbcleeaaW.PrintWords Go.Proofs.YtihmhcdcbcleeaaW.PrintLast Go.Proofs.YtihmhcdcbcleeaaW.PrintMore Go.Proofs.Ytihmhcdcbcleeaa.Open Go.Proofs.Ytihmhcdcbcleeaa.Q Go.Proofs.Ytihmhcdcbcleeaa.Aid
/-! ### the law's own -/
theorem alive_ev : Ev (fun k => fringelaw41_alive.f k) true := Ev.of (fun k => fringelaw41_alive.mono k) (k := 80) (by kernel_rfl)
theorem valid_ev (p : List S41) (l : List S33) : Ev (fun k => fringelaw41_valid.f k p l) (decide (bth p l = 0)) := by
  simp only [fringelaw41_valid.f, Great_eq, Option.bind_some]
  refine Ev.ite (fun h => ?_) (fun h => Ev.bind (ref_Both_ev p l) (Ev.some_of ?_))
  · refine Ev.some_of ?_
    simp only [decide_eq_true_eq] at h
    symm
    rw [decide_eq_false_iff_not]
    intro h0
    have := bth_ok h0
    omega
  · rw [Bool.eq_iff_iff]; simp
theorem SeeS_ok {p : List S41} {l : List S33} (h : bth p l = 0) : SeeS p l = (visOf p l 0 0, 0) := by unfold SeeS; rw [if_pos h]
theorem TurnS_ok {p : List S41} {l : List S33} {x y : Int} (h : bth p l = 0) (hc : -8 ≤ x ∧ x ≤ 8 ∧ -8 ≤ y ∧ y ≤ 8) : TurnS p l x y = (visOf p l x y, 0) := by unfold TurnS; rw [if_pos h, if_pos hc]
theorem bth_chk {p : List S41} {l : List S33} (h : bth p l = 0) : chk l = 0 := by
  unfold bth at h
  by_cases hp : plc p = 0
  · rwa [if_pos hp] at h
  · rw [if_neg hp] at h; exact absurd h hp
theorem bth_plc {p : List S41} {l : List S33} (h : bth p l = 0) : plc p = 0 := by
  unfold bth at h
  by_cases hp : plc p = 0
  · exact hp
  · rwa [if_neg hp] at h
theorem plc_chk {p : List S41} {l : List S33} (h : plc p = 0) (h' : chk l = 0) : bth p l = 0 := by unfold bth; rw [if_pos h, h']
theorem chk_ok {l : List S33} (h : chk l = 0) : l.length ≤ 16 ∧ ∀ s ∈ l, lampOk s = true := by
  unfold chk at h
  by_cases h1 : l.length > 16
  · rw [if_pos h1] at h; omega
  · rw [if_neg h1] at h
    by_cases h2 : l.all lampOk = true
    · exact ⟨by omega, List.all_eq_true.1 h2⟩
    · rw [if_neg h2] at h; omega
theorem ok_chk {l : List S33} (h : l.length ≤ 16) (h' : ∀ s ∈ l, lampOk s = true) : chk l = 0 := by
  unfold chk
  rw [if_neg (by omega), if_pos (List.all_eq_true.2 h')]
theorem R2_ok {p : List S41} (h : ∀ s ∈ p, placeOk s = true) : ∀ s ∈ p, R2 s := fun s hs => by
  have := ok41 (h s hs)
  exact ⟨by omega, by omega⟩

/-! ### places moved -/
end Go.Proofs.Ytihmhcdcbcleeaa.Pure
namespace Go.Proofs.Ytihmhcdcbcleeaa.Pure
open Go.RowKit Go.Proofs.YtihmhcdcbcleeaaW.PrintWords Go.Proofs.YtihmhcdcbcleeaaW.PrintLast Go.Proofs.YtihmhcdcbcleeaaW.PrintMore Go.Proofs.Ytihmhcdcbcleeaa.Open Go.Proofs.Ytihmhcdcbcleeaa.Q Go.Proofs.Ytihmhcdcbcleeaa.Aid
/-! ### greatest common divisors, small fractions -/
theorem gcd_l1 (r : Int) (l : List Int) (n : Int) (i : Nat) (hi : i < 1000) : ∀ d : Nat, ∀ x3 x5 : Int, x5.natAbs ≤ d →
    (∀ g : Int, g.natAbs = Nat.gcd x3.natAbs x5.natAbs → Ev (fun k => cx_gcd.l0 k g l n ((i + 1 : Nat) : Int)) r) → Ev (fun k => cx_gcd.l1 k x3 x5 l n i) r
  | 0, x3, x5, h, hk => by
    refine Ev.step (fun k => by simp only [cx_gcd.l1]; rfl) ?_
    have h0 : x5 = 0 := by omega
    refine Ev.iteT h0 ?_
    rw [wr1 i (by omega)]
    refine hk x3 ?_
    rw [h0]
    simp
  | d + 1, x3, x5, h, hk => by
    refine Ev.step (fun k => by simp only [cx_gcd.l1]; rfl) ?_
    refine Ev.ite (fun h0 => ?_) (fun h0 => ?_)
    · rw [wr1 i (by omega)]
      refine hk x3 ?_
      rw [h0]
      simp
    · have e : (Int.tmod x3 x5).natAbs = x3.natAbs % x5.natAbs := Int.natAbs_tmod x3 x5
      have hlt : x3.natAbs % x5.natAbs < x5.natAbs := Nat.mod_lt _ (by omega)
      refine gcd_l1 r l n i hi d x5 (Int.tmod x3 x5) (by omega) (fun g hg => hk g ?_)
      rw [hg, e, Nat.gcd_comm x5.natAbs, ← Nat.gcd_rec, Nat.gcd_comm]
theorem gcd_l0 (l : List Int) (hl : l.length ≤ 100) (hb : ∀ x ∈ l, x.natAbs ≤ 9223372036854775807) : ∀ d i : Nat, l.length = i + d → ∀ x3 : Int, x3.natAbs ≤ 9223372036854775807 →
    Ev (fun k => cx_gcd.l0 k x3 l l.length i) (((l.drop i).foldl (fun g a => Nat.gcd g a.natAbs) x3.natAbs : Nat) : Int)
  | 0, i, h, x3, hx => by
    refine Ev.step (fun k => by simp only [cx_gcd.l0]; rfl) ?_
    refine Ev.iteF (by omega) ?_
    rw [List.drop_eq_nil_of_le (by omega)]
    refine Ev.some_of ?_
    rw [List.foldl_nil, wr (by omega) (by omega)]
    unfold mx
    split <;> omega
  | d + 1, i, h, x3, hx => by
    refine Ev.step (fun k => by simp only [cx_gcd.l0]; rfl) ?_
    refine Ev.iteT (by omega) (Ev.iteT (by omega) (Ev.iteT (by omega) ?_))
    have e : rd l (i : Int) = l.getD i 0 := rfl
    have hm := hb _ (mem_getD l 0 i (by omega))
    rw [drop_get l 0 i (by omega), List.foldl_cons, e]
    generalize l.getD i 0 = a at hm
    refine gcd_l1 _ l l.length i (by omega) a.natAbs x3 a (Nat.le_refl _) (fun g hg => ?_)
    have hle : g.natAbs ≤ 9223372036854775807 := by
      rw [hg]
      by_cases h0 : x3.natAbs = 0
      · rw [h0, Nat.gcd_zero_left]; exact hm
      · exact Nat.le_trans (Nat.gcd_le_left _ (by omega)) hx
    rw [← hg]
    exact gcd_l0 l hl hb d (i + 1) (by omega) g hle
theorem gcd3_ev {a b c : Int} (ha : a.natAbs ≤ 9223372036854775807) (hb : b.natAbs ≤ 9223372036854775807) (hc : c.natAbs ≤ 9223372036854775807) : Ev (fun k => cx_gcd.f k [a, b, c]) ((Nat.gcd (Nat.gcd a.natAbs b.natAbs) c.natAbs : Nat) : Int) := by
  simp only [cx_gcd.f]
  have := gcd_l0 [a, b, c] (by simp) (by intro x hx; simp at hx; rcases hx with rfl | rfl | rfl <;> assumption) 3 0 (by simp) 0 (by simp)
  simpa using this
def cxOk (a b c : Int) : Bool := decide (1 ≤ c ∧ c ≤ 1000000000 ∧ -1000000000 ≤ a ∧ a ≤ 1000000000 ∧ -1000000000 ≤ b ∧ b ≤ 1000000000 ∧ Nat.gcd (Nat.gcd a.natAbs b.natAbs) c.natAbs = 1)
theorem Check1_eq (x : Int) : cx_Check_1.f x = some (decide (-1000000000 ≤ x ∧ x ≤ 1000000000)) := by
  unfold cx_Check_1.f
  by_cases h : x ≥ -1000000000
  · rw [if_pos h]; congr 1; rw [decide_eq_decide]; omega
  · rw [if_neg h]; congr 1; symm; rw [decide_eq_false_iff_not]; omega
theorem cxCheck_ev (a b c : Int) : Ev (fun k => cx_Check.f k a b c) (if cxOk a b c then 0 else 8) := by
  simp only [cx_Check.f, Check1_eq, Option.bind_some]
  by_cases h : cxOk a b c = true
  · rw [if_pos h]
    simp only [cxOk, decide_eq_true_eq] at h
    obtain ⟨h1, h2, h3, h4, h5, h6, h7⟩ := h
    refine Ev.iteF (by omega) (Ev.iteT (by simp; omega) (Ev.iteT (by simp; omega) (Ev.iteT (by simp; omega) (Ev.bind (gcd3_ev (by omega) (by omega) (by omega)) ?_))))
    rw [h7]
    exact Ev.iteT (by simp) (Ev.now _)
  · rw [if_neg h]
    simp only [cxOk, decide_eq_true_eq] at h
    refine Ev.ite (fun _ => Ev.now _) (fun c1 => Ev.ite (fun c2 => Ev.ite (fun c3 => Ev.ite (fun c4 => ?_) (fun _ => Ev.now _)) (fun _ => Ev.now _)) (fun _ => Ev.now _))
    simp only [decide_eq_true_eq] at c2 c3 c4
    refine Ev.bind (gcd3_ev (by omega) (by omega) (by omega)) (Ev.iteF (fun h7 => h ?_) (Ev.now _))
    exact ⟨by omega, by omega, by omega, by omega, by omega, by omega, by omega⟩
theorem cxOk_one {a b : Int} (ha : -1000000000 ≤ a ∧ a ≤ 1000000000) (hb : -1000000000 ≤ b ∧ b ≤ 1000000000) : cxOk a b 1 = true := by
  simp only [cxOk, decide_eq_true_eq]
  exact ⟨by omega, by omega, by omega, by omega, by omega, by omega, by simp⟩
end Go.Proofs.Ytihmhcdcbcleeaa.Pure
namespace Go.Proofs.Ytihmhcdcbcleeaa.Pure
open Go.RowKit Go.Proofs.YtihmhcdcbcleeaaW.PrintWords Go.Proofs.YtihmhcdcbcleeaaW.PrintLast Go.Proofs.YtihmhcdcbcleeaaW.PrintMore Go.Proofs.Ytihmhcdcbcleeaa.Open Go.Proofs.Ytihmhcdcbcleeaa.Q Go.Proofs.Ytihmhcdcbcleeaa.Aid
/-! ### the same -/
theorem same_l0 (m : List S33) (hm : m.length ≤ 100000) : ∀ d i : Nat, m.length = i + d → Ev (fun k => fringeref41_Same.l0 k m m i) true
  | 0, i, h => by
    refine Ev.step (fun k => by simp only [fringeref41_Same.l0]; rfl) ?_
    exact Ev.iteF (by omega) (Ev.now _)
  | d + 1, i, h => by
    refine Ev.step (fun k => by simp only [fringeref41_Same.l0]; rfl) ?_
    refine Ev.iteT (by omega) (Ev.iteT (by omega) (Ev.iteT (by omega) (Ev.iteF (by simp) ?_)))
    rw [wr1 i (by omega)]
    exact same_l0 m hm d (i + 1) (by omega)
theorem same_ev (m : List S33) (hm : m.length ≤ 100000) : Ev (fun k => fringeref41_Same.f k m m) true := by
  simp only [fringeref41_Same.f]
  exact Ev.iteT (by simp) (same_l0 m hm m.length 0 (by omega))
end Go.Proofs.Ytihmhcdcbcleeaa.Pure
namespace Go.Proofs.Ytihmhcdcbcleeaa.Pure
open Go.RowKit Go.Proofs.YtihmhcdcbcleeaaW.PrintWords Go.Proofs.YtihmhcdcbcleeaaW.PrintLast Go.Proofs.YtihmhcdcbcleeaaW.PrintMore Go.Proofs.Ytihmhcdcbcleeaa.Open Go.Proofs.Ytihmhcdcbcleeaa.Q Go.Proofs.Ytihmhcdcbcleeaa.Aid
def at_ (s : S33) : Nat := s.f1.toNat * 8 + s.f0.toNat
def fl (l : List S33) (n : Nat) : Int := l.foldr (fun s a => (if at_ s = n then s.f2 else 0) + a) 0
theorem fl_nil (n : Nat) : fl [] n = 0 := rfl
theorem fl_cons (s : S33) (l : List S33) (n : Nat) : fl (s :: l) n = (if at_ s = n then s.f2 else 0) + fl l n := rfl
theorem fl_append (l m : List S33) (n : Nat) : fl (l ++ m) n = fl l n + fl m n := by
  induction l with
  | nil => rw [List.nil_append, fl_nil, Int.zero_add]
  | cons s t ih => rw [List.cons_append, fl_cons, fl_cons, ih, Int.add_assoc]
theorem fl_bd {l : List S33} (hg : ∀ s ∈ l, lampOk s = true) (n : Nat) : 0 ≤ fl l n ∧ fl l n ≤ 1000 * l.length := by
  induction l with
  | nil => simp [fl_nil]
  | cons s t ih =>
    have h1 := ih (fun u hu => hg u (by simp [hu]))
    have h2 := ok33 (hg s (by simp))
    rw [fl_cons, List.length_cons]
    split <;> omega
def lampAt (v : Nat → Int) (n : Nat) : Option S33 := if v n > 0 then some ⟨((n % 8 : Nat) : Int), ((n / 8 : Nat) : Int), v n⟩ else none
def mg (v : Nat → Int) (ns : List Nat) : List S33 := ns.filterMap (lampAt v)
theorem mg_cons (v : Nat → Int) (n : Nat) (ns : List Nat) : mg v (n :: ns) = (if v n > 0 then [(⟨((n % 8 : Nat) : Int), ((n / 8 : Nat) : Int), v n⟩ : S33)] else []) ++ mg v ns := by
  unfold mg
  rw [List.filterMap_cons]
  unfold lampAt
  by_cases h : v n > 0
  · rw [if_pos h, if_pos h]; rfl
  · rw [if_neg h, if_neg h]; rfl
theorem mg_congr {v v' : Nat → Int} : ∀ {ns : List Nat}, (∀ n ∈ ns, v n = v' n) → mg v ns = mg v' ns
  | [], _ => rfl
  | n :: ns, h => by rw [mg_cons, mg_cons, h n (by simp), mg_congr (fun m hm => h m (by simp [hm]))]
def merged (l : List S33) : List S33 := mg (fl l) (List.range 64)
def MergeS (l : List S33) : List S33 × Int := if chk l = 0 then (if (List.range 64).all (fun n => decide (fl l n ≤ 1000)) then (merged l, 0) else ([], 16)) else ([], chk l)
theorem at_mk (n : Nat) (z : Int) : at_ ⟨((n % 8 : Nat) : Int), ((n / 8 : Nat) : Int), z⟩ = n := by
  unfold at_
  simp only [Int.toNat_natCast]
  omega
theorem fl_mg (v : Nat → Int) (n : Nat) : ∀ ns : List Nat, ns.Nodup → (∀ m ∈ ns, 0 ≤ v m) → fl (mg v ns) n = if n ∈ ns then v n else 0
  | [], _, _ => rfl
  | m :: ns, hd, hv => by
    have hd2 := List.nodup_cons.1 hd
    have ih := fl_mg v n ns hd2.2 (fun k hk => hv k (by simp [hk]))
    have h0 := hv m (by simp)
    rw [mg_cons, fl_append, ih]
    by_cases e : m = n
    · subst e
      rw [if_neg hd2.1, if_pos (show m ∈ m :: ns from List.mem_cons_self)]
      by_cases h : v m > 0
      · rw [if_pos h, fl_cons, at_mk, if_pos rfl, fl_nil]
        show v m + 0 + 0 = v m
        omega
      · rw [if_neg h, fl_nil]; omega
    · have e2 : (n ∈ m :: ns) = (n ∈ ns) := by rw [List.mem_cons]; exact propext ⟨fun h => h.resolve_left (fun h => e h.symm), Or.inr⟩
      simp only [e2]
      by_cases h : v m > 0
      · rw [if_pos h, fl_cons, at_mk, if_neg e, fl_nil, Int.add_zero, Int.zero_add]
      · rw [if_neg h, fl_nil, Int.zero_add]
theorem mg_len (s : S33) (l : List S33) (hg : ∀ t ∈ s :: l, lampOk t = true) : ∀ ns : List Nat, ns.Nodup → (mg (fl (s :: l)) ns).length ≤ (mg (fl l) ns).length + (if at_ s ∈ ns then 1 else 0)
  | [], _ => by simp [mg]
  | n :: ns, hd => by
    have hd2 := List.nodup_cons.1 hd
    have ih := mg_len s l hg ns hd2.2
    have h1 := fl_bd (l := l) (fun t ht => hg t (by simp [ht])) n
    rw [mg_cons, mg_cons, List.length_append, List.length_append, fl_cons]
    by_cases e : at_ s = n
    · subst e
      rw [if_neg hd2.1] at ih
      rw [if_pos (show at_ s = at_ s from rfl), if_pos (show at_ s ∈ at_ s :: ns from List.mem_cons_self)]
      split <;> split <;> simp <;> omega
    · have e2 : (at_ s ∈ n :: ns) = (at_ s ∈ ns) := by rw [List.mem_cons]; exact propext ⟨fun h => h.resolve_left e, Or.inr⟩
      simp only [e2, if_neg e, Int.zero_add]
      split <;> simp <;> omega
theorem merged_len {l : List S33} (hg : ∀ t ∈ l, lampOk t = true) : (merged l).length ≤ l.length := by
  unfold merged
  induction l with
  | nil =>
    have : mg (fl []) (List.range 64) = mg (fun _ => 0) (List.range 64) := mg_congr (fun _ _ => rfl)
    rw [this]
    exact Nat.le_of_eq (by decide)
  | cons s t ih =>
    have h := mg_len s t hg (List.range 64) List.nodup_range
    have := ih (fun u hu => hg u (by simp [hu]))
    rw [List.length_cons]
    split at h <;> omega
theorem merged_mem {v : Nat → Int} {ns : List Nat} {s : S33} (h : s ∈ mg v ns) : ∃ n ∈ ns, v n > 0 ∧ s = ⟨((n % 8 : Nat) : Int), ((n / 8 : Nat) : Int), v n⟩ := by
  obtain ⟨n, hn, he⟩ := List.mem_filterMap.1 h
  refine ⟨n, hn, ?_⟩
  unfold lampAt at he
  by_cases hv : v n > 0
  · rw [if_pos hv] at he; exact ⟨hv, (Option.some.inj he).symm⟩
  · rw [if_neg hv] at he; cases he
theorem mem_mg {v : Nat → Int} {ns : List Nat} {n : Nat} (hn : n ∈ ns) (h : v n > 0) : (⟨((n % 8 : Nat) : Int), ((n / 8 : Nat) : Int), v n⟩ : S33) ∈ mg v ns :=
  List.mem_filterMap.2 ⟨n, hn, by unfold lampAt; rw [if_pos h]⟩
theorem lampOk_iff' {s : S33} : lampOk s = true ↔ (0 ≤ s.f0 ∧ s.f0 < 8 ∧ 0 ≤ s.f1 ∧ s.f1 < 8 ∧ 0 ≤ s.f2 ∧ s.f2 ≤ 1000) := by simp only [lampOk, decide_eq_true_eq]
/-- A merged sky of few lamps is valid where no cell is too bright. -/
theorem merged_chk {l : List S33} (h : chk l = 0) : chk (merged l) = 0 ↔ (List.range 64).all (fun n => decide (fl l n ≤ 1000)) = true := by
  obtain ⟨h1, h2⟩ := chk_ok h
  have h3 := merged_len h2
  constructor
  · intro hc
    have h4 := (chk_ok hc).2
    refine List.all_eq_true.2 (fun n hn => decide_eq_true ?_)
    by_cases hv : fl l n > 0
    · have := lampOk_iff'.1 (h4 _ (mem_mg hn hv))
      simp only at this
      omega
    · omega
  · intro ha
    refine ok_chk (by omega) (fun s hs => ?_)
    obtain ⟨n, hn, hv, rfl⟩ := merged_mem hs
    have h5 := of_decide_eq_true (List.all_eq_true.1 ha n hn)
    have h6 := List.mem_range.1 hn
    refine lampOk_iff'.2 ?_
    simp only
    omega
theorem merged_fl {l : List S33} (hg : ∀ t ∈ l, lampOk t = true) {n : Nat} (hn : n < 64) : fl (merged l) n = fl l n := by
  unfold merged
  rw [fl_mg _ _ _ List.nodup_range (fun m _ => (fl_bd hg m).1), if_pos (List.mem_range.2 hn)]
theorem merged_merged {l : List S33} (hg : ∀ t ∈ l, lampOk t = true) : merged (merged l) = merged l :=
  mg_congr (fun _ hn => merged_fl hg (List.mem_range.1 hn))
/-! ### what is seen of a merged sky -/
def smc (u v : Int) (g : Nat → Int) : List Nat → Int × Int
  | [] => (0, 0)
  | n :: ns => ((rot (u * (((n % 8 : Nat) : Int) + 0) + v * (((n / 8 : Nat) : Int) + 0)) (g n, 0)).1 + (smc u v g ns).1, (rot (u * (((n % 8 : Nat) : Int) + 0) + v * (((n / 8 : Nat) : Int) + 0)) (g n, 0)).2 + (smc u v g ns).2)
theorem sm_mg (u v : Int) (g : Nat → Int) : ∀ ns : List Nat, (∀ n ∈ ns, 0 ≤ g n) → sm u v (mg g ns) 0 0 = smc u v g ns
  | [], _ => rfl
  | n :: ns, h => by
    have ih := sm_mg u v g ns (fun m hm => h m (by simp [hm]))
    have h0 := h n (by simp)
    rw [mg_cons, smc]
    by_cases c : g n > 0
    · rw [if_pos c, List.singleton_append, sm_cons, ih]
    · have e : g n = 0 := by omega
      rw [if_neg c, List.nil_append, ih, e, rot_zero]
      simp
theorem smc_add (u v : Int) (s : S33) (hs : lampOk s = true) (l : List S33) : ∀ ns : List Nat, ns.Nodup → smc u v (fl (s :: l)) ns = if at_ s ∈ ns then ((rot (u * (s.f0 + 0) + v * (s.f1 + 0)) (s.f2, 0)).1 + (smc u v (fl l) ns).1, (rot (u * (s.f0 + 0) + v * (s.f1 + 0)) (s.f2, 0)).2 + (smc u v (fl l) ns).2) else smc u v (fl l) ns
  | [], _ => by simp [smc]
  | n :: ns, hd => by
    have hd2 := List.nodup_cons.1 hd
    have ih := smc_add u v s hs l ns hd2.2
    have hk := lampOk_iff'.1 hs
    rw [smc, smc, fl_cons, ih]
    by_cases e : at_ s = n
    · subst e
      rw [if_neg hd2.1, if_pos (show at_ s = at_ s from rfl), if_pos (show at_ s ∈ at_ s :: ns from List.mem_cons_self)]
      have e0 : ((at_ s % 8 : Nat) : Int) = s.f0 := by unfold at_; omega
      have e1 : ((at_ s / 8 : Nat) : Int) = s.f1 := by unfold at_; omega
      rw [e0, e1]
      have e2 : rot (u * (s.f0 + 0) + v * (s.f1 + 0)) (s.f2 + fl l (at_ s), 0) = _ := rot_plus (u * (s.f0 + 0) + v * (s.f1 + 0)) s.f2 0 (fl l (at_ s)) 0
      rw [e2]
      simp only [Prod.mk.injEq]
      omega
    · have e2 : (at_ s ∈ n :: ns) = (at_ s ∈ ns) := by rw [List.mem_cons]; exact propext ⟨fun h => h.resolve_left e, Or.inr⟩
      simp only [e2, if_neg e, Int.zero_add]
      by_cases c : at_ s ∈ ns
      · rw [if_pos c, if_pos c]
        simp only [Prod.mk.injEq]
        omega
      · rw [if_neg c, if_neg c]
theorem smc_zero (u v : Int) : ∀ ns : List Nat, smc u v (fl []) ns = (0, 0)
  | [] => rfl
  | n :: ns => by rw [smc, smc_zero u v ns, fl_nil, rot_zero]; rfl
theorem smc_all (u v : Int) : ∀ l : List S33, (∀ s ∈ l, lampOk s = true) → smc u v (fl l) (List.range 64) = sm u v l 0 0
  | [], _ => smc_zero u v _
  | s :: l, h => by
    have hs := h s (by simp)
    have hk := lampOk_iff'.1 hs
    rw [smc_add u v s hs l _ List.nodup_range, if_pos (List.mem_range.2 (by unfold at_; omega)), smc_all u v l (fun t ht => h t (by simp [ht])), sm_cons]
theorem sm_merged (u v : Int) {l : List S33} (h : ∀ s ∈ l, lampOk s = true) : sm u v (merged l) 0 0 = sm u v l 0 0 := by
  unfold merged
  rw [sm_mg u v _ _ (fun n _ => (fl_bd h n).1), smc_all u v l h]
theorem visOf_merged (p : List S41) {l : List S33} (h : ∀ s ∈ l, lampOk s = true) : visOf p (merged l) 0 0 = visOf p l 0 0 := by
  unfold visOf visB
  simp only [sm_merged _ _ h]
end Go.Proofs.Ytihmhcdcbcleeaa.Pure
namespace Go.Proofs.Ytihmhcdcbcleeaa.Pure
open Go.RowKit Go.Proofs.YtihmhcdcbcleeaaW.PrintWords Go.Proofs.YtihmhcdcbcleeaaW.PrintLast Go.Proofs.YtihmhcdcbcleeaaW.PrintMore Go.Proofs.Ytihmhcdcbcleeaa.Open Go.Proofs.Ytihmhcdcbcleeaa.Q Go.Proofs.Ytihmhcdcbcleeaa.Aid
theorem puts_get : ∀ (l : List S33) (B : Int) (m : List Int), m.length = 64 → (∀ s ∈ l, lampOk s = true) → (∀ n, 0 ≤ m.getD n 0 ∧ m.getD n 0 ≤ B) → B + 1000 * l.length ≤ 1000000 → ∀ n, n < 64 → (l.foldl sky_Merge.put m).getD n 0 = m.getD n 0 + fl l n
  | [], _, m, _, _, _, _, n, _ => by rw [List.foldl_nil, fl_nil, Int.add_zero]
  | s :: l, B, m, hm, hg, hb, hB, n, hn => by
    have hk := lampOk_iff'.1 (hg s (by simp))
    have hat : at_ s < 64 := by unfold at_; omega
    have e : sky_Merge.at_ s = at_ s := rfl
    rw [List.length_cons] at hB
    have h0 := hb (at_ s)
    have hget : ∀ j, (sky_Merge.put m s).getD j 0 = if at_ s = j then m.getD (at_ s) 0 + s.f2 else m.getD j 0 := fun j => by
      unfold sky_Merge.put
      rw [e, wr (by omega) (by omega), List.getD_eq_getElem?_getD, List.getElem?_set]
      by_cases c : at_ s = j
      · rw [if_pos c, if_pos c, if_pos (by omega)]; rfl
      · rw [if_neg c, if_neg c, ← List.getD_eq_getElem?_getD]
    rw [List.foldl_cons, puts_get l (B + 1000) _ (by rw [sky_Merge.put_len]; exact hm) (fun t ht => hg t (by simp [ht])) (fun j => by rw [hget]; have := hb j; split <;> omega) (by omega) n hn, hget, fl_cons]
    split
    · rename_i c; rw [c]; omega
    · omega
theorem scan_eq (m : List Int) (v : Nat → Int) : ∀ (ns : List Nat) (out : List S33), (∀ n ∈ ns, m.getD n 0 = v n) → sky_Merge.scan m ns out = if ns.all (fun n => decide (v n ≤ 1000)) then (out ++ mg v ns, 0) else ([], 16)
  | [], out, _ => by simp [sky_Merge.scan, mg]
  | n :: ns, out, h => by
    have h0 := h n (by simp)
    rw [sky_Merge.scan, h0, List.all_cons]
    by_cases c : v n > 1000
    · rw [if_pos c, decide_eq_false (by omega), Bool.false_and, if_neg (by simp)]
    · rw [if_neg c, decide_eq_true (by omega), Bool.true_and]
      have ih := fun o => scan_eq m v ns o (fun k hk => h k (by simp [hk]))
      rw [mg_cons]
      by_cases c2 : v n > 0
      · rw [if_pos c2, if_pos c2, ih, List.append_assoc]
      · rw [if_neg c2, if_neg c2, ih, List.nil_append]
theorem zeros_get (k n : Nat) : (List.replicate k (0 : Int)).getD n 0 = 0 := by
  rw [List.getD_eq_getElem?_getD, List.getElem?_replicate]
  split <;> rfl
theorem sky_Merge_ev (l : List S33) : Ev (fun k => sky_Merge.f k l) (MergeS l) := by
  unfold MergeS
  simp only [sky_Merge.f]
  refine Ev.bind (sky_Check_ev l) ?_
  by_cases h : chk l = 0
  · obtain ⟨h1, h2⟩ := chk_ok h
    rw [if_pos h, if_pos h]
    refine Ev.iteT ⟨by omega, List.all_eq_true.2 (fun s hs => ?_)⟩ (Ev.some_of ?_)
    · have := lampOk_iff'.1 (h2 s hs)
      exact decide_eq_true (by omega)
    · have hg := puts_get l 0 (List.replicate 64 0) (by simp) h2 (fun n => by rw [zeros_get]; omega) (by omega)
      rw [scan_eq _ (fl l) _ _ (fun n hn => by
        rw [hg n (List.mem_range.1 hn), zeros_get, Int.zero_add])]
      rfl
  · rw [if_neg h, if_neg h]; exact Ev.now _
/-! ### the reference -/
theorem mg_append (v : Nat → Int) (a b : List Nat) : mg v (a ++ b) = mg v a ++ mg v b := List.filterMap_append
theorem rm_l2 (l : List S33) (hl : l.length ≤ 16) (hg : ∀ s ∈ l, lampOk s = true) (y x : Nat) (hy : y < 8) (hx : x < 8) (out : List S33) (ho : out.length ≤ 1000) (r : List S33 × Int)
    (hk : Ev (fun k => fringeref41_Merge.l1 k l (out ++ mg (fl l) [y * 8 + x]) y ((x + 1 : Nat) : Int)) r) :
    ∀ d i : Nat, l.length = i + d → ∀ acc : Int, 0 ≤ acc → acc ≤ 1000 * i → acc + fl (l.drop i) (y * 8 + x) = fl l (y * 8 + x) → Ev (fun k => fringeref41_Merge.l2 k l out y x i x y acc) r
  | 0, i, h, acc, h0, h1, ha => by
    refine Ev.step (fun k => by simp only [fringeref41_Merge.l2]; rfl) ?_
    refine Ev.iteF (by omega) ?_
    rw [List.drop_eq_nil_of_le (by omega), fl_nil, Int.add_zero] at ha
    rw [mg_cons] at hk
    have e0 : (((y * 8 + x) % 8 : Nat) : Int) = x := by omega
    have e1 : (((y * 8 + x) / 8 : Nat) : Int) = y := by omega
    rw [e0, e1, ← ha] at hk
    rw [wr1 x (by omega)]
    by_cases c : acc > 0
    · rw [if_pos c] at hk
      refine Ev.iteT c (Ev.iteT (by omega) ?_)
      have : mg (fl l) [] = [] := rfl
      rw [this, List.append_nil] at hk
      exact hk
    · rw [if_neg c] at hk
      refine Ev.iteF c ?_
      have : mg (fl l) [] = [] := rfl
      rw [this, List.append_nil, List.append_nil] at hk
      exact hk
  | d + 1, i, h, acc, h0, h1, ha => by
    refine Ev.step (fun k => by simp only [fringeref41_Merge.l2]; rfl) ?_
    refine Ev.iteT (by omega) (Ev.iteT (by omega) ?_)
    have hs := ok33 (hg _ (mem_getD l z33 i (by omega)))
    have e : rd_T33 l (i : Int) = l.getD i z33 := rfl
    rw [drop_get l z33 i (by omega), fl_cons] at ha
    rw [e, wr1 i (by omega)]
    generalize l.getD i z33 = s at hs ha
    have hat : at_ s = y * 8 + x ↔ (s.f0 = x ∧ s.f1 = y) := by unfold at_; omega
    have ih := fun a p q e => rm_l2 l hl hg y x hy hx out ho r hk d (i + 1) (by omega) a p q e
    refine Ev.ite (fun c1 => Ev.ite (fun c2 => ?_) (fun c2 => ?_)) (fun c1 => ?_)
    · rw [if_pos (hat.2 ⟨c1, c2⟩)] at ha
      rw [wr (by omega) (by omega)]
      exact ih _ (by omega) (by omega) (by omega)
    · rw [if_neg (fun hh => c2 (hat.1 hh).2), Int.zero_add] at ha
      exact ih _ h0 (by omega) ha
    · rw [if_neg (fun hh => c1 (hat.1 hh).1), Int.zero_add] at ha
      exact ih _ h0 (by omega) ha
theorem rm_l1 (l : List S33) (hl : l.length ≤ 16) (hg : ∀ s ∈ l, lampOk s = true) (y : Nat) (hy : y < 8) (r : List S33 × Int) : ∀ d x : Nat, 8 = x + d → ∀ out : List S33, out.length ≤ y * 8 + x →
    Ev (fun k => fringeref41_Merge.l0 k l (out ++ mg (fl l) (List.range' (y * 8 + x) d)) ((y + 1 : Nat) : Int)) r → Ev (fun k => fringeref41_Merge.l1 k l out y x) r
  | 0, x, h, out, ho, hk => by
    refine Ev.step (fun k => by simp only [fringeref41_Merge.l1]; rfl) ?_
    refine Ev.iteF (by omega) ?_
    rw [wr1 y (by omega)]
    have : mg (fl l) (List.range' (y * 8 + x) 0) = [] := rfl
    rw [this, List.append_nil] at hk
    exact hk
  | d + 1, x, h, out, ho, hk => by
    refine Ev.step (fun k => by simp only [fringeref41_Merge.l1]; rfl) ?_
    refine Ev.iteT (by omega) ?_
    have hlen : (mg (fl l) [y * 8 + x]).length ≤ 1 := by rw [mg_cons]; split <;> simp [mg]
    refine rm_l2 l hl hg y x hy (by omega) out (by omega) r ?_ l.length 0 (by omega) 0 (by omega) (by omega) (by rw [List.drop_zero, Int.zero_add])
    refine rm_l1 l hl hg y hy r d (x + 1) (by omega) _ (by rw [List.length_append]; omega) ?_
    rw [List.range'_succ] at hk
    rw [List.append_assoc, ← mg_append]
    exact hk
theorem rm_l0 (l : List S33) (hl : l.length ≤ 16) (hg : ∀ s ∈ l, lampOk s = true) : ∀ d y : Nat, 8 = y + d → ∀ out : List S33, out.length ≤ y * 8 →
    Ev (fun k => fringeref41_Merge.l0 k l out y) (if chk (out ++ mg (fl l) (List.range' (y * 8) (d * 8))) = 0 then (out ++ mg (fl l) (List.range' (y * 8) (d * 8)), 0) else ([], 16))
  | 0, y, h, out, ho => by
    refine Ev.step (fun k => by simp only [fringeref41_Merge.l0]; rfl) ?_
    refine Ev.iteF (by omega) ?_
    have : mg (fl l) (List.range' (y * 8) (0 * 8)) = [] := rfl
    rw [this, List.append_nil]
    refine Ev.bind (ref_Check_ev out) ?_
    by_cases c : chk out = 0
    · rw [if_pos c, if_pos c]; exact Ev.now _
    · rw [if_neg c, if_neg c]; exact Ev.now _
  | d + 1, y, h, out, ho => by
    refine Ev.step (fun k => by simp only [fringeref41_Merge.l0]; rfl) ?_
    refine Ev.iteT (by omega) ?_
    have hlen : ∀ ns : List Nat, (mg (fl l) ns).length ≤ ns.length := fun ns => List.length_filterMap_le _ _
    have ih := rm_l0 l hl hg d (y + 1) (by omega) (out ++ mg (fl l) (List.range' (y * 8) 8)) (by rw [List.length_append]; have := hlen (List.range' (y * 8) 8); rw [List.length_range'] at this; omega)
    have e : List.range' (y * 8) ((d + 1) * 8) = List.range' (y * 8) 8 ++ List.range' ((y + 1) * 8) (d * 8) := by
      rw [show (d + 1) * 8 = 8 + d * 8 by omega, show (y + 1) * 8 = y * 8 + 8 by omega, List.range'_append_1]
    rw [e, mg_append, ← List.append_assoc]
    exact rm_l1 l hl hg y (by omega) _ 8 0 (by omega) out (by omega) ih
theorem ref_Merge_ev (l : List S33) : Ev (fun k => fringeref41_Merge.f k l) (MergeS l) := by
  unfold MergeS
  simp only [fringeref41_Merge.f]
  refine Ev.bind (ref_Check_ev l) ?_
  by_cases h : chk l = 0
  · obtain ⟨h1, h2⟩ := chk_ok h
    rw [if_pos h]
    refine Ev.iteT h ?_
    have h3 := rm_l0 l h1 h2 8 0 (by omega) [] (by simp)
    rw [List.nil_append] at h3
    have e : mg (fl l) (List.range' (0 * 8) (8 * 8)) = merged l := by unfold merged; rw [List.range_eq_range']
    rw [e] at h3
    by_cases c : (List.range 64).all (fun n => decide (fl l n ≤ 1000)) = true
    · rw [if_pos c]; rw [if_pos ((merged_chk h).2 c)] at h3; exact h3
    · rw [if_neg c]; rw [if_neg (fun hc => c ((merged_chk h).1 hc))] at h3; exact h3
  · rw [if_neg h]; exact Ev.iteF h (Ev.now _)
theorem MergeS_le (l : List S33) : (MergeS l).1.length ≤ 100000 := by
  unfold MergeS
  split
  · split
    · rename_i h _
      have := merged_len (chk_ok h).2
      have := (chk_ok h).1
      simp only
      omega
    · simp
  · simp
end Go.Proofs.Ytihmhcdcbcleeaa.Pure
namespace Go.Proofs.Ytihmhcdcbcleeaa.Pure
open Go.RowKit Go.Proofs.YtihmhcdcbcleeaaW.PrintWords Go.Proofs.YtihmhcdcbcleeaaW.PrintLast Go.Proofs.YtihmhcdcbcleeaaW.PrintMore Go.Proofs.Ytihmhcdcbcleeaa.Open Go.Proofs.Ytihmhcdcbcleeaa.Q Go.Proofs.Ytihmhcdcbcleeaa.Aid
theorem or2_ev (a b : Int) : Ev (fun k => cmp_Or__api_Errno.f k [a, b]) (if a = 0 then b else a) := by
  simp only [cmp_Or__api_Errno.f]
  have e2 : Ev (fun k => cmp_Or__api_Errno.l0 k 0 [a, b] 2 2) 0 := by
    refine Ev.step (fun k => by simp only [cmp_Or__api_Errno.l0]; rfl) ?_
    exact Ev.iteF (by omega) (Ev.now _)
  have e1 : Ev (fun k => cmp_Or__api_Errno.l0 k 0 [a, b] 2 1) b := by
    refine Ev.step (fun k => by simp only [cmp_Or__api_Errno.l0]; rfl) ?_
    have r : rd [a, b] 1 = b := rfl
    rw [r]
    refine Ev.iteT (by omega) (Ev.iteT (by omega) (Ev.iteT (by simp) (Ev.ite (fun h => ?_) (fun _ => Ev.now _))))
    rw [h, show wrap64 (1 + 1) = 2 from wr (by omega) (by omega)]
    subst h
    exact e2
  refine Ev.step (fun k => by simp only [cmp_Or__api_Errno.l0]; rfl) ?_
  have r : rd [a, b] 0 = a := rfl
  rw [r]
  refine Ev.iteT (by simp) (Ev.iteT (by omega) (Ev.iteT (by simp) (Ev.ite (fun h => ?_) (fun h => ?_))))
  · rw [if_pos h, show wrap64 (0 + 1) = 1 from wr (by omega) (by omega)]; exact e1
  · rw [if_neg h]; exact Ev.now _
theorem cxCheck0 {a b c : Int} (h : cxOk a b c = true) : Ev (fun k => cx_Check.f k a b c) 0 := by
  have := cxCheck_ev a b c
  rwa [if_pos h] at this
theorem cxReduced1 {a b : Int} (ha : -1000000 ≤ a ∧ a ≤ 1000000) (hb : -1000000 ≤ b ∧ b ≤ 1000000) : Ev (fun k => cx_reduced.f k a b 1) (a, b, 1, 0) := by
  simp only [cx_reduced.f]
  have hg := gcd3_ev (a := a) (b := b) (c := 1) (by omega) (by omega) (by omega)
  have e : Nat.gcd (Nat.gcd a.natAbs b.natAbs) (1 : Int).natAbs = 1 := Nat.gcd_one_right _
  rw [e] at hg
  refine Ev.bind hg ?_
  simp only [cx_reduced.g]
  rw [if_neg (show ¬ ((1 : Int) < 0) by omega)]
  refine Ev.iteF (by simp) ?_
  have e1 : Int.tdiv a ((1 : Nat) : Int) = a := Int.tdiv_one a
  have e2 : Int.tdiv b ((1 : Nat) : Int) = b := Int.tdiv_one b
  have e3 : wrap64 (Int.tdiv 1 ((1 : Nat) : Int)) = 1 := wr (by decide) (by decide)
  rw [e1, e2, e3, wr (x := a) (by omega) (by omega), wr (x := b) (by omega) (by omega)]
  exact Ev.bind (cxCheck0 (cxOk_one (by omega) (by omega))) (Ev.iteT rfl (Ev.now _))
theorem cxAdd1 {a b c d : Int} (ha : -100000 ≤ a ∧ a ≤ 100000) (hb : -100000 ≤ b ∧ b ≤ 100000) (hc : -100000 ≤ c ∧ c ≤ 100000) (hd : -100000 ≤ d ∧ d ≤ 100000) :
    Ev (fun k => cx_Add.f k a b 1 c d 1) (a + c, b + d, 1, 0) := by
  simp only [cx_Add.f, cx_check.f]
  have h1 := cxCheck0 (cxOk_one (a := a) (b := b) (by omega) (by omega))
  have h2 := cxCheck0 (cxOk_one (a := c) (b := d) (by omega) (by omega))
  refine Ev.bind (Ev.bind h1 (Ev.bind h2 (Ev.bind (or2_ev 0 0) (Ev.now _)))) (Ev.iteT rfl ?_)
  simp only [Int.mul_one]
  rw [wr (x := a) (by omega) (by omega), wr (x := b) (by omega) (by omega), wr (x := c) (by omega) (by omega), wr (x := d) (by omega) (by omega), wr (x := a + c) (by omega) (by omega), wr (x := b + d) (by omega) (by omega)]
  have e : wrap64 1 = 1 := wr (by omega) (by omega)
  rw [e]
  exact Ev.bind (cxReduced1 (by omega) (by omega)) (Ev.now _)
end Go.Proofs.Ytihmhcdcbcleeaa.Pure

/- The plain statement of the law QueueParts. -/
import Derived.Test.YtelmcaenemjppaaQ20
import Derived.Test.YtelmcaenemjppaaQT
import Derived.Test.YtelmcaenemjppaaQueD
namespace Go.Proofs.Ytelmcaenemjppaa.Pure
open Go.RowKit Go.Proofs.YtelmcaenemjppaaW.PrintWords Go.Proofs.YtelmcaenemjppaaW.PrintLast Go.Proofs.YtelmcaenemjppaaW.PrintMore Go.Proofs.Ytelmcaenemjppaa.Open Go.Proofs.Ytelmcaenemjppaa.Q Go.Proofs.Ytelmcaenemjppaa.Aid
def tot : List S42 → Int
  | [] => 0
  | p :: t => p.f3 + tot t
theorem tot_set (y : S42) : ∀ (l : List S42) (i : Nat), i < l.length → tot (l.set i y) = tot l - (l.getD i z42).f3 + y.f3
  | p :: t, 0, _ => by
    show y.f3 + tot t = p.f3 + tot t - p.f3 + y.f3
    omega
  | p :: t, i + 1, h => by
    have := tot_set y t i (by rw [List.length_cons] at h; omega)
    show p.f3 + tot (t.set i y) = p.f3 + tot t - (t.getD i z42).f3 + y.f3
    omega
theorem tot_bd : ∀ l : List S42, (∀ p ∈ l, 0 ≤ p.f3 ∧ p.f3 ≤ 1000) → 0 ≤ tot l ∧ tot l ≤ 1000 * l.length
  | [], _ => ⟨Int.le_refl _, Int.le_refl _⟩
  | p :: t, h => by
    have h1 := tot_bd t (fun q hq => h q (List.mem_cons_of_mem _ hq))
    have h2 := h p List.mem_cons_self
    rw [tot, List.length_cons]
    omega
theorem tot_zero : ∀ l : List S42, (∀ i, i < l.length → (l.getD i z42).f3 = 0) → tot l = 0
  | [], _ => rfl
  | p :: t, h => by
    have h1 := tot_zero t (fun i hi => h (i + 1) (by rw [List.length_cons]; omega))
    have h2 : p.f3 = 0 := h 0 (by rw [List.length_cons]; omega)
    rw [tot, h1, h2]
    rfl
theorem VQ.tot {l : List S42} {num den : Int} (h : VQ l num den) : 0 ≤ tot l ∧ tot l ≤ 8000 := by
  have := tot_bd l (fun p hp => (h.bnd p hp).2.2)
  have := h.len
  omega
/-- Who is served in turn, from one queue to another. -/
def Chain : List Int → List S42 → Int → Int → List S42 → Int → Int → Prop
  | [], l, n, d, a, na, da => l = a ∧ n = na ∧ d = da
  | x :: t, l, n, d, a, na, da => VQ l n d ∧ turnS l = x ∧ (serveS l n d).2.1 = 0 ∧ (serveS l n d).1 = x ∧ VQ (serveS l n d).2.2.1 (serveS l n d).2.2.2.1 (serveS l n d).2.2.2.2 ∧ Chain t (serveS l n d).2.2.1 (serveS l n d).2.2.2.1 (serveS l n d).2.2.2.2 a na da
theorem srv_full : ∀ (m : Nat) (l : List S42) (num den : Int) (out : List Int), VQ l num den → (srv m l num den out).2.2.2.2 = 0 →
    ∃ o, (srv m l num den out).2.2.2.1 = out ++ o ∧ Chain o l num den (srv m l num den out).1 (srv m l num den out).2.1 (srv m l num den out).2.2.1 ∧ (o.length : Int) = mn (m : Int) (tot l)
  | 0, l, num, den, out, h, _ => ⟨[], (List.append_nil _).symm, ⟨rfl, rfl, rfl⟩, by have := h.tot; unfold mn; rw [if_neg (by omega)]; rfl⟩
  | m + 1, l, num, den, out, h, he => by
    rw [srv] at he ⊢
    rcases serve_cases h with ⟨e, _, hz⟩ | ⟨i, _, _, e, _⟩ | ⟨i, hi, ht, e, hw, _, _, hv, _⟩
    · rw [e] at he ⊢
      dsimp only at he ⊢
      rw [if_pos rfl] at he ⊢
      exact ⟨[], (List.append_nil _).symm, ⟨rfl, rfl, rfl⟩, by rw [tot_zero l hz]; unfold mn; rw [if_pos (by omega)]; rfl⟩
    · rw [e] at he
      dsimp only at he
      rw [if_neg (show ¬ (16 : Int) = 6 by omega), if_neg (show ¬ (16 : Int) = 0 by omega)] at he
      exact absurd he (by simp)
    · have hS := e
      rw [e] at he ⊢
      dsimp only at he ⊢
      rw [if_neg (show ¬ (0 : Int) = 6 by omega), if_pos rfl] at he ⊢
      obtain ⟨o, h2, h3, h4⟩ := srv_full m _ _ _ _ hv he
      refine ⟨(i : Int) :: o, by rw [h2, List.append_assoc, List.singleton_append], ?_, ?_⟩
      · rw [Chain, hS]
        exact ⟨h, ht, rfl, rfl, hv, h3⟩
      · have e3 : (had (l.getD i z42)).f3 = (l.getD i z42).f3 - 1 := rfl
        rw [tot_set _ l i hi, e3] at h4
        rw [List.length_cons]
        unfold mn at h4 ⊢
        split at h4 <;> split <;> omega
theorem srv_add (m2 : Nat) : ∀ (m : Nat) (l : List S42) (num den : Int) (out : List Int), VQ l num den → (srv m l num den out).2.2.2.2 = 0 →
    srv (m + m2) l num den out = srv m2 (srv m l num den out).1 (srv m l num den out).2.1 (srv m l num den out).2.2.1 (srv m l num den out).2.2.2.1
  | 0, l, num, den, out, h, _ => by rw [Nat.zero_add]; rfl
  | m + 1, l, num, den, out, h, he => by
    rw [show m + 1 + m2 = (m + m2) + 1 by omega, srv]
    rw [srv] at he ⊢
    rcases serve_cases h with ⟨e, _⟩ | ⟨i, _, _, e, _⟩ | ⟨i, hi, _, e, _, _, _, hv, _⟩
    · rw [e]
      dsimp only
      rw [if_pos rfl, if_pos rfl]
      dsimp only
      cases m2 with
      | zero => rfl
      | succ m2 => rw [srv, e]; dsimp only; rw [if_pos rfl]
    · rw [e] at he
      dsimp only at he
      rw [if_neg (show ¬ (16 : Int) = 6 by omega), if_neg (show ¬ (16 : Int) = 0 by omega)] at he
      exact absurd he (by simp)
    · rw [e] at he ⊢
      dsimp only at he ⊢
      rw [if_neg (show ¬ (0 : Int) = 6 by omega), if_pos rfl] at he
      rw [if_neg (show ¬ (0 : Int) = 6 by omega), if_pos rfl, if_neg (show ¬ (0 : Int) = 6 by omega), if_pos rfl]
      exact srv_add m2 m _ _ _ _ hv he
theorem srv_out : ∀ (m : Nat) (l : List S42) (num den : Int) (out : List Int), VQ l num den →
    ((srv m l num den []).2.2.2.2 = 0 → srv m l num den out = ((srv m l num den []).1, (srv m l num den []).2.1, (srv m l num den []).2.2.1, out ++ (srv m l num den []).2.2.2.1, 0)) ∧ ((srv m l num den []).2.2.2.2 = 16 → srv m l num den out = srv m l num den [])
  | 0, l, num, den, out, _ => ⟨fun _ => by simp [srv], fun h => by simp [srv] at h⟩
  | m + 1, l, num, den, out, h => by
    rw [srv, srv]
    rcases serve_cases h with ⟨e, _⟩ | ⟨i, _, _, e, _⟩ | ⟨i, hi, _, e, _, _, _, hv, _⟩
    · rw [e]
      dsimp only
      rw [if_pos rfl, if_pos rfl]
      exact ⟨fun _ => by simp, fun h => by simp at h⟩
    · rw [e]
      dsimp only
      rw [if_neg (show ¬ (16 : Int) = 6 by omega), if_neg (show ¬ (16 : Int) = 0 by omega), if_neg (show ¬ (16 : Int) = 6 by omega), if_neg (show ¬ (16 : Int) = 0 by omega)]
      exact ⟨fun h => by simp at h, fun _ => rfl⟩
    · rw [e]
      dsimp only
      rw [if_neg (show ¬ (0 : Int) = 6 by omega), if_pos rfl, if_neg (show ¬ (0 : Int) = 6 by omega), if_pos rfl, List.nil_append]
      obtain ⟨a1, a2⟩ := srv_out m _ _ _ (out ++ [(i : Int)]) hv
      obtain ⟨b1, b2⟩ := srv_out m _ _ _ [(i : Int)] hv
      rcases srv_err m _ _ _ [] hv with h0 | h0
      · rw [a1 h0, b1 h0]
        exact ⟨fun _ => by rw [List.append_assoc], fun h => by simp at h⟩
      · rw [a2 h0, b2 h0]
        exact ⟨fun h => by rw [h0] at h; simp at h, fun _ => rfl⟩
/-! ### the law -/
theorem parts_l1 (o m o3 : List Int) (a b c : List S42) (na da nb db nc dc : Int) (ha : a.length ≤ 8) (ho : o.length ≤ 1000) (hm : m.length ≤ 1000) (hb : b = c ∧ nb = nc ∧ db = dc) (hbl : b.length ≤ 8) (h3 : o3 = o ++ m) :
    ∀ d i : Nat, o.length = i + d → ∀ (l : List S42) (num den : Int), Chain (o.drop i) l num den a na da → Ev (fun k => fringelaw42_QueueParts.l1 k true o m o3 i a na da b nb db c nc dc l num den) true
  | 0, i, h, l, num, den, hc => by
    rw [List.drop_eq_nil_of_le (by omega)] at hc
    obtain ⟨rfl, rfl, rfl⟩ := hc
    obtain ⟨rfl, rfl, rfl⟩ := hb
    refine Ev.step (fun n => by simp only [fringelaw42_QueueParts.l1]; rfl) ?_
    refine Ev.iteF (by omega) (Ev.iteT (by simp) (Ev.bind (same_refl _ _ _ (by omega)) (Ev.iteT (by simp) (Ev.bind (same_refl _ _ _ (by omega)) (Ev.iteT (by simp) ?_)))))
    simp only [Option.bind_some, List.nil_append, List.length_nil]
    subst h3
    refine Ev.iteT (by omega) ?_
    refine Ev.iteT (by omega) ?_
    exact Ev.bind (ints_refl _ (by rw [List.length_append]; omega)) (Ev.now _)
  | d + 1, i, h, l, num, den, hc => by
    refine Ev.step (fun n => by simp only [fringelaw42_QueueParts.l1]; rfl) ?_
    rw [drop_get o 0 i (by omega)] at hc
    obtain ⟨hv, ht, h0, h1, hv2, hc2⟩ := hc
    have hN : NextS l num den = ((serveS l num den).2.2.1, (serveS l num den).2.2.2.1, (serveS l num den).2.2.2.2, (serveS l num den).1, 0) := by unfold NextS; rw [if_pos (vq_iff.2 hv), if_pos h0]
    have r : rd o (i : Int) = o.getD i 0 := rfl
    have ih := parts_l1 o m o3 a b c na da nb db nc dc ha ho hm hb hbl h3 d (i + 1) (by omega) _ _ _ hc2
    refine Ev.iteT (by omega) (Ev.bind (refTurn_ev l (fun p hp => (hv.bnd p hp).2.2.1) (by have := hv.len; omega) num den) (Ev.bind (impl_Next l num den hv.NB) ?_))
    rw [hN, r, wr1 i (by omega)]
    refine Ev.iteT (by simp) (Ev.bind (ref_Check _ _ _) ?_)
    rw [vq_iff.2 hv2]
    exact Ev.iteT (by simp) (Ev.iteT (by omega) (Ev.iteT h1 (Ev.iteT (h1.trans ht.symm) ih)))
theorem parts_l0 (n p : Int) (l : List S42) (num den : Int) (hv : VQ l num den) (h : Ev (fun k => fringelaw42_QueueParts.l0 k n p true (tot l) l.length l num den) true) : ∀ d i : Nat, l.length = i + d → ∀ a : Int, 0 ≤ a → a + tot (l.drop i) = tot l → Ev (fun k => fringelaw42_QueueParts.l0 k n p true a i l num den) true
  | 0, i, hi, a, _, ha => by
    rw [List.drop_eq_nil_of_le (by omega), tot, Int.add_zero] at ha
    rw [ha, show i = l.length by omega]
    exact h
  | d + 1, i, hi, a, h0, ha => by
    refine Ev.step (fun n => by simp only [fringelaw42_QueueParts.l0]; rfl) ?_
    rw [drop_get l z42 i (by omega), tot] at ha
    have r : rd_T42 l (i : Int) = l.getD i z42 := rfl
    have hb := (hv.bnd _ (mem_getD l z42 i (by omega))).2.2
    have hb2 := tot_bd (l.drop (i + 1)) (fun p hp => (hv.bnd p (List.mem_of_mem_drop hp)).2.2)
    have hb3 := hv.tot
    have hb4 := hv.len
    rw [r, wr1 i (by omega), wr (x := a + (l.getD i z42).f3) (by omega) (by omega)]
    refine Ev.iteT (by omega) (Ev.iteT (by omega) ?_)
    exact parts_l0 n p l num den hv h d (i + 1) (by omega) _ (by omega) (by omega)
theorem parts_j0 (n p : Int) (l : List S42) (num den : Int) : Ev (fun f => fringelaw42_QueueParts.j0 f n p true true l num den) true := by
  refine Ev.step (fun f => by simp only [fringelaw42_QueueParts.j0]; rfl) ?_
  exact Ev.iteT (by simp) (Ev.now _)
theorem parts_j (n p : Int) (l : List S42) (num den : Int) (hv : VQ l num den) (hn : 0 ≤ n ∧ n ≤ 100) (hp : 0 ≤ p ∧ p ≤ 100) : Ev (fun f => fringelaw42_QueueParts.j0 f n p true false l num den) true := by
  refine Ev.step (fun f => by simp only [fringelaw42_QueueParts.j0]; rfl) ?_
  refine Ev.iteF (by simp) ?_
  refine parts_l0 n p l num den hv ?_ l.length 0 (by omega) 0 (by omega) (by rw [List.drop_zero]; omega)
  refine Ev.step (fun f => by simp only [fringelaw42_QueueParts.l0]; rfl) ?_
  have hS : ∀ (l : List S42) (num den x : Int), VQ l num den → 0 ≤ x → x ≤ 200 → ServeS l num den x = srv x.toNat l num den [] := fun l num den x hv h h' => by unfold ServeS; rw [if_pos (vq_iff.2 hv), if_pos ⟨h, by omega⟩]
  refine Ev.iteF (by omega) (Ev.bind (impl_Serve l num den n hv.NB) ?_)
  rw [hS l num den n hv hn.1 (by omega)]
  have hlen := (srv_len n.toNat l num den [] hv)
  rcases srv_err n.toNat l num den [] hv with he | he
  · have hadd := srv_add p.toNat n.toNat l num den [] hv he
    obtain ⟨hv', _⟩ := srv_ok n.toNat l num den [] hv he
    obtain ⟨o, ho, hc, hl⟩ := srv_full n.toNat l num den [] hv he
    rw [List.nil_append] at ho
    rw [wr (x := n + p) (by omega) (by omega)]
    rw [show n.toNat + p.toNat = (n + p).toNat by omega] at hadd
    rw [ho] at hadd hlen
    have h3 := hS l num den (n + p) hv (by omega) (by omega)
    rw [hadd] at h3
    rw [ho]
    generalize srv n.toNat l num den [] = t at *
    obtain ⟨k1, k2⟩ := srv_out p.toNat t.1 t.2.1 t.2.2.1 o hv'
    have hlen2 := srv_len p.toNat t.1 t.2.1 t.2.2.1 [] hv'
    have herr := srv_err p.toNat t.1 t.2.1 t.2.2.1 [] hv'
    refine Ev.iteT he (Ev.bind (impl_Serve t.1 t.2.1 t.2.2.1 p hv'.NB) (Ev.bind (impl_Serve l num den (n + p) hv.NB) ?_))
    rw [hS t.1 t.2.1 t.2.2.1 p hv' hp.1 (by omega), h3]
    generalize srv p.toNat t.1 t.2.1 t.2.2.1 [] = s at *
    rw [List.length_nil] at hlen hlen2
    have hq : ((o.length : Int) != mn n (tot l)) = false := by rw [bne_eq_false_iff_eq, hl]; congr 1; omega
    rw [hq]
    rcases herr with he2 | he2
    · rw [k1 he2]
      refine Ev.iteT he2 ?_
      refine Ev.step (fun f => by simp only [fringelaw42_QueueParts.j2]; rfl) ?_
      refine Ev.iteF (by simp) (Ev.iteT he2 ?_)
      exact parts_l1 o s.2.2.2.1 (o ++ s.2.2.2.1) t.1 s.1 s.1 _ _ _ _ _ _ (by omega) (by omega) (by omega) ⟨rfl, rfl, rfl⟩ (by omega) rfl o.length 0 (by omega) l num den (by rw [List.drop_zero]; exact hc)
    · rw [k2 he2]
      refine Ev.iteT (by simp) ?_
      refine Ev.step (fun f => by simp only [fringelaw42_QueueParts.j2]; rfl) ?_
      refine Ev.iteF (by simp) (Ev.iteF (by omega) (Ev.iteT (by simp) ?_))
      rw [he2]
      exact Ev.now _
  · refine Ev.iteF (by omega) (Ev.iteT (by simp) ?_)
    rw [he]
    exact Ev.now _
theorem QueueParts : ∀ (x0 : S24) (a1 : Int) (a2 : Int), G24 x0 → (Lit.int .i64 a1).wf = true → (Lit.int .i64 a2).wf = true → ∃ k, fringelaw42_QueueParts.f k x0.f0 x0.f1 x0.f2 a1 a2 = some true := by
  intro x n p hx _ _
  have hl : x.f0.length ≤ 9223372036854775806 := by have := hx.1.1; omega
  refine Ev.rounds ?_
  simp only [fringelaw42_QueueParts.f]
  refine Ev.bind alive_ev (Ev.bind (Great_ev x.f0 x.f1 x.f2 hl) ?_)
  refine Ev.ite (fun _ => parts_j0 _ _ _ _ _) (fun hg => Ev.bind (ref_Check x.f0 x.f1 x.f2) (Ev.ite (fun hc => Ev.ite (fun _ => parts_j0 _ _ _ _ _) (fun c1 => Ev.ite (fun _ => parts_j0 _ _ _ _ _) (fun c2 => Ev.ite (fun _ => parts_j0 _ _ _ _ _) (fun c3 => Ev.ite (fun _ => parts_j0 _ _ _ _ _) (fun c4 => ?_))))) (fun _ => parts_j0 _ _ _ _ _)))
  exact parts_j n p x.f0 x.f1 x.f2 (vq_iff.1 hc) ⟨by omega, by omega⟩ ⟨by omega, by omega⟩
end Go.Proofs.Ytelmcaenemjppaa.Pure

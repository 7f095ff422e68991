/- Part of a proof. No condition. -/
import Derived.Test.YtghpmhllpaheiaaGreatDoorF01
set_option linter.unusedVariables false
set_option linter.unusedSimpArgs false
namespace Go.Proofs.YtghpmhllpaheiaaGreatDoor
variable {G:List bY} {k:Nat}
def RchN (G:List bY):Nat->Nat->Nat->Prop
 | 0,k,x=>k=x
 | n+1,k,x=>∃ j∈bC G k,RchN G n j x
def Rch (G:List bY) (k x:Nat):Prop:=∃ n,RchN G n k x
theorem Rch.refl (G:List bY) (k:Nat):Rch G k k:=⟨0,rfl⟩
theorem Rch.step {j x:Nat} (hj:j∈bC G k) (h:Rch G j x):Rch G k x:=by
 obtain⟨n,h⟩:=h;exact⟨n+1,j,hj,h⟩
theorem dfs_spec (G:List bY):∀ (f:Nat),
 (∀ k seen l,uC G f k seen=some l->(∀ x∈seen,x∈l)/\k∈l/\(∀ x∈l,x∈seen\/Rch G k x)/\∀ x∈l,x∉seen->∀ y∈bC G x,y∈l)/\
 (∀ r seen l,mP G f r seen=some l->(∀ x∈seen,x∈l)/\(∀ k∈r,k∈l)/\(∀ x∈l,x∈seen\/∃ k∈r,Rch G k x)/\∀ x∈l,x∉seen->∀ y∈bC G x,y∈l):=by
 intro f
 induction f with
 | zero=>exact⟨λk seen l h=>(by rw[uC] at h;cases h),λr seen l h=>(by rw[mP] at h;cases h)⟩
 | succ f ih=>
  refine⟨λk seen l h=> ?_,λr seen l h=> ?_⟩
  . rw[uC] at h
    split at h
    . rename_i hc
      cases h;have hm:k∈seen:=by simpa using hc
      exact⟨λx hx=>hx,hm,λx hx=>.inl hx,λx hx hn=>absurd hx hn⟩
    obtain⟨a1,a2,a3,a4⟩:=ih.2 _ _ _ h
    refine⟨λx hx=>a1 x (by simp[hx]),a1 k (by simp),λx hx=> ?_,λx hx hn y hy=> ?_⟩
    . rcases a3 x hx with h1|⟨j,hj,h1⟩
      . rcases List.mem_append.1 h1 with h1|h1
        . exact .inl h1
        rw[List.mem_singleton] at h1;subst h1;exact .inr (Rch.refl G x)
      exact .inr (Rch.step hj h1)
    by_cases e:x=k
    . subst e;exact a2 y hy
    exact a4 x hx (by simp[hn,e]) y hy
  cases r with
  | nil=>
   rw[mP] at h;cases h;exact⟨λx hx=>hx,λk hk=>(by cases hk),λx hx=>.inl hx,λx hx hn=>absurd hx hn⟩
  | cons k r=>
   rw[mP] at h;split at h
   . cases h
   rename_i s2 h2
   obtain⟨a1,a2,a3,a4⟩:=ih.1 _ _ _ h2;obtain⟨b1,b2,b3,b4⟩:=ih.2 _ _ _ h;refine⟨λx hx=>b1 x (a1 x hx),λj hj=> ?_,λx hx=> ?_,λx hx hn y hy=> ?_⟩
   . rcases List.mem_cons.1 hj with rfl|hj
     . exact b1 j a2
     exact b2 j hj
   . rcases b3 x hx with h1|⟨j,hj,h1⟩
     . rcases a3 x h1 with h1|h1
       . exact .inl h1
       exact .inr ⟨k,by simp,h1⟩
     exact .inr ⟨j,by simp[hj],h1⟩
   by_cases e:x∈s2
   . exact b1 y (a4 x e hn y hy)
   exact b4 x hx e y hy
theorem vA {f:Nat} {l:List Nat} (h:uC G f k []=some l) (x:Nat):x∈l↔Rch G k x:=by
 obtain⟨_,h2,h3,h4⟩:=(dfs_spec G f).1 k [] l h;constructor
 . intro hx
   rcases h3 x hx with h|h
   . cases h
   exact h
 rintro⟨n,hn⟩
 have key:∀ (n j:Nat),j∈l->RchN G n j x->x∈l:=by
  intro n
  induction n with
  | zero=>intro j hj e;rw[RchN] at e;subst e;exact hj
  | succ n ih=>
   rintro j hj ⟨i,hi,hr⟩;exact ih i (h4 j hj (by simp) i hi) hr
 exact key n k h2 hn
structure NetOk (G:List bY) (m:Nat):Prop where
 link:∀ k,∀ j∈bC G k,j<G.length
 deg:∀ k,(bC G k).length<=m
theorem dfs_ends {m:Nat} (hG:NetOk G m):∀ (f:Nat),
 (∀ k seen,k<G.length->seen.Nodup->(∀ x∈seen,x<G.length)->(G.length-seen.length)*(m+2)+1<=f->∃ l,uC G f k seen=some l/\l.Nodup/\(∀ x∈l,x<G.length)/\seen.length<=l.length)/\
 (∀ (r:List Nat) seen,(∀ k∈r,k<G.length)->seen.Nodup->(∀ x∈seen,x<G.length)->r.length+(G.length-seen.length)*(m+2)+1<=f->∃ l,mP G f r seen=some l/\l.Nodup/\(∀ x∈l,x<G.length)/\seen.length<=l.length):=by
 intro f
 induction f with
 | zero=>exact⟨λk seen hk hn hs hf=>by omega,λr seen hk hn hs hf=>by omega⟩
 | succ f ih=>
  refine⟨λk seen hk hn hs hf=> ?_,λr seen hk hn hs hf=> ?_⟩
  . rw[uC]
    by_cases hc:seen.contains k=true
    . rw[if_pos hc]
      exact⟨seen,rfl,hn,hs,Nat.le_refl _⟩
    rw[if_neg hc]
    have P6:k∉seen:=by simpa using hc
    have xo:(seen++[k]).Nodup:=by
     rw[List.nodup_append];refine⟨hn,by simp,λa ha b hb e=> ?_⟩;rw[List.mem_singleton] at hb;subst hb;exact P6 (e▸ha)
    have VQ:∀ x∈seen++[k],x<G.length:=λx hx=>by
     rcases List.mem_append.1 hx with hx|hx
     . exact hs x hx
     rw[List.mem_singleton] at hx;rw[hx];exact hk
    have Hg:=xo.length_le_of_subset (l₂:=List.range G.length) (λx hx=>List.mem_range.2 (VQ x hx));rw[List.length_range,List.length_append,List.length_singleton] at Hg;have hd:=hG.deg k;have GS:(G.length-seen.length)*(m+2)=(G.length-(seen++[k]).length)*(m+2)+(m+2):=by
     rw[List.length_append,List.length_singleton,show G.length-seen.length=(G.length-(seen.length+1))+1 by omega,Nat.add_mul];omega
    obtain⟨l,h1,h2,h3,h4⟩:=ih.2 (bC G k) (seen++[k]) (hG.link k) xo VQ (by omega);exact⟨l,h1,h2,h3,by simp at h4;omega⟩
  cases r with
  | nil=>exact⟨seen,by rw[mP],hn,hs,Nat.le_refl _⟩
  | cons k r=>
   rw[mP];simp only[List.length_cons] at hf;obtain⟨s2,h1,h2,h3,h4⟩:=ih.1 k seen (hk k (by simp)) hn hs (by omega);rw[h1];have GS:(G.length-s2.length)*(m+2)<=(G.length-seen.length)*(m+2):=Nat.mul_le_mul_right _ (by omega);obtain⟨l,a1,a2,a3,a4⟩:=ih.2 r s2 (λj hj=>hk j (by simp[hj])) h2 h3 (by omega);exact⟨l,a1,a2,a3,by omega⟩
theorem zeA {m f:Nat} (hG:NetOk G m) (hk:k<G.length) (hf:G.length*(m+2)+1<=f):∃ l,uC G f k []=some l:=by
 obtain⟨l,h,_⟩:=(dfs_ends hG f).1 k [] hk (by simp) (λx hx=>by cases hx) (by simpa using hf);exact⟨l,h⟩

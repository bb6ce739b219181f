import Derived.Test.YthobodfbjjjiiaaEnPure
namespace Go.Proofs.Ythobodfbjjjiiaa
set_option linter.unusedVariables false
theorem Zgo (n:Net) (m:List UInt8):∀(l:List Int) (out out':List (List UInt8)),out.Nodup→Zga n m l out=some out'→out'.Nodup
 |[],out,out',h,he=>by cases he;exact h
 | t ::r,out,out',h,he=>by
  unfold Zga at he
  split at he
  ·cases he
  ·rename_i m' _
   refine Zgo n m r _ out' ?_ he
   split
   ·exact h
   ·rename_i hn
    refine List.nodup_append.2 ⟨h,by simp,fun a ha b hb=> ?_⟩
    simp only[List.mem_singleton] at hb
    subst hb
    exact fun e=>hn (e▸ha)
theorem ZfW (n:Net):∀(f k:Nat) (out:List (List UInt8)),out.Nodup→out.length≤600→((ZcW n f k out).1).Nodup∧((ZcW n f k out).1).length≤600
 |0,_,out,h,hl=>⟨h,hl⟩
 | f +1,k,out,h,hl=>by
  unfold ZcW
  split
  ·exact ⟨h,hl⟩
  ·rename_i m _
   cases he:Zga n m (enL n m) out with
   |none=>rw[ZoL];exact ⟨List.nodup_nil,by simp⟩
   | some o=>
    have hn:=Zgo n m _ out o h he
    by_cases hb:600<o.length
    ·rw[ZpZ hb];exact ⟨List.nodup_nil,by simp⟩
    ·rw[ZrV hb];exact ZfW n f (k+1) o hn (by omega)
theorem reach_len (n:Net) (m:List UInt8):((reach n m).1).length≤600:=(ZfW n 601 0 [m] (by simp) (by simp)).2
end Go.Proofs.Ythobodfbjjjiiaa

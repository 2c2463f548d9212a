import Derived.Test.YticdpekeaipnaaaPFnExactPlainCatsx2
namespace Go.Proofs.Yticdpekeaipnaaa
open Go.Proofs.Yticdpekeaipnaaa.PFnExactPlainCats Go.Proofs.YticdpekeaipnaaaW.PrintWords
theorem Pure.FnExactPlainCats : laws_FnExactPlainCats.Pure := ⟨300, by kernel_rfl⟩
end Go.Proofs.Yticdpekeaipnaaa

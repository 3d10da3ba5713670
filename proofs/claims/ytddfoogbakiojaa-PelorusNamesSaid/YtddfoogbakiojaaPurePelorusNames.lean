/-
  The names law of layer 0: each error, limit and kind of the program has the document's number. Conditions: none; a closed sentence.
-/
import Derived.Test.YtddfoogbakiojaaPPelorusNamesx3
namespace Go.Proofs.Ytddfoogbakiojaa.Pure
open Go.RowKit Go.Proofs.Ytddfoogbakiojaa.PPelorusNames Go.Proofs.YtddfoogbakiojaaW.PrintWords Go.Proofs.YtddfoogbakiojaaW.PrintLast

theorem PelorusNames : peloruslaw0_PelorusNames.Pure := by
  unfold peloruslaw0_PelorusNames.Pure
  decide +kernel

end Go.Proofs.Ytddfoogbakiojaa.Pure

/- Lemmas on worlds, rows and regions, those that this claim needs. -/
import Derived.Test.YtokhmgfjgpcmdaaVWTab

/- Own walks for the law, joined from several texts: what the law reaches, and no more (joined by keeplive.py). -/
import Derived.Test.YtpcpjlbfhbicaaaWInv
import Derived.Test.YtpcpjlbfhbicaaaWFootNe

